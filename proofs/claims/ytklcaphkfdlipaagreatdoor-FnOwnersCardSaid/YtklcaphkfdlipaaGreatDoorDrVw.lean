import Derived.Test.YtklcaphkfdlipaaGreatDoorPackVa
import Derived.Test.YtklcaphkfdlipaaGreatDoorPackVk
import Derived.Test.YtklcaphkfdlipaaGreatDoorDrMap
/- The draw of a map and views. -/
set_option linter.unusedSimpArgs false
set_option linter.unusedVariables false
namespace Go.Proofs.YtklcaphkfdlipaaGreatDoor
open Go.RowKit
/-- Some rings and some views, in memory of the draw's own. -/
def RetVwD (w : World) (g : Nat) (e : Ending) (w' : World) : Prop :=
  ∃ (R : List (List Pt)) (a : Option Addr) (n c : Nat) (T : List Vw) (b : Option Addr) (m d : Nat), e = .returned (.tuple #[.slice a n c, .slice b m d]) ∧ n ≤ 7 ∧ m ≤ 5 ∧ GRg w' w.heap.size R a n c ∧ GVw w' w.heap.size T b m d ∧ ∃ z : After w g (g + 1), w' = z.w ∧ SrcOk z.w g
theorem RetVwD.mk {w w' : World} {g : Nat} {e : Ending} {R : List (List Pt)} {a b : Option Addr} {n c m d : Nat} {T : List Vw} (he : e = .returned (.tuple #[.slice a n c, .slice b m d])) (h1 : n ≤ 7) (h2 : m ≤ 5) (h3 : GRg w' w.heap.size R a n c) (h4 : GVw w' w.heap.size T b m d) (hb : Between g (g + 1) w w') (hs : SrcOk w' g) : RetVwD w g e w' :=
  ⟨R, a, n, c, T, b, m, d, he, h1, h2, h3, h4, ⟨w', hb⟩, rfl, hs⟩
theorem own_tightQ {w : World} {lo e s n c g : Nat} {a : Option Addr} {vs : List Value} (h : Owns w lo g e s n a c vs) (hl : lo ≤ g) :
    ∃ p p', lo ≤ p ∧ p ≤ p' ∧ p' ≤ g ∧ Owns w p p' e s n a c vs ∧ (∀ k, p ≤ k → k < p' → ∃ q : Addr, a = some q ∧ q.block = k) := by
  obtain ⟨p, p', h1, h2, h3, h4, h5⟩ := own_tight h hl
  exact ⟨p, p', h1, h2, h3, h4, fun k hk hk' => ⟨_, own_zero2 h4 (h5 k hk hk'), rfl⟩⟩
theorem info_vw' : ∃ i, Tryz.prog.info? 64 = some i ∧ i.zero = some (.agg #[.string ByteArray.empty, .slice none 0 0]) ∧ i.size = 2 ∧ i.bytes = 40 := by
  have h := info_view
  cases hi : Tryz.prog.info? 64 with
  | none => rw [hi] at h; cases h
  | some i =>
    rw [hi] at h
    simp only [Option.map_some, Option.some.injEq, Prod.mk.injEq] at h
    exact ⟨i, rfl, h.1, h.2.1, h.2.2⟩
theorem one_vwc (s : ByteArray) (a : Option Addr) (n c : Nat) : ∀ u ∈ [Value.string s, Value.slice a n c], u.oneCell' = true := by
  intro u hu
  simp only [List.mem_cons, List.not_mem_nil, or_false] at hu
  rcases hu with rfl | rfl <;> rfl
theorem RowsW.keep {w w' : World} {lo g g' : Nat} {a : Option Addr} {T : List Vw} {vs : List Value} (h : RowsW w lo a T vs) (hb : Between g g' w w') (hg : g' ≤ lo) : RowsW w' lo a T vs := fun i hi => by
  obtain ⟨ai, ci, e1, e2, e3, e6⟩ := h i hi
  exact ⟨ai, ci, e1, e2, own_btw e3 hb (fun k hk => .inr (by have := (e3.lt k hk).1; omega)), e6⟩
theorem one_tx (s : ByteArray) : ∀ u ∈ [Value.string s], u.oneCell' = true := by
  intro u hu
  rw [List.mem_singleton.1 hu]; rfl
set_option maxRecDepth 8000 in
set_option maxHeartbeats 8000000 in
theorem l18Draw_any (g : Nat) (w : World) (h : SrcOk w g) : Calls Tryz.prog 84 #[.pointer (some ⟨g, 0, none⟩)] w (RetVwD w g) := by
  have hg := h.lt
  have hg' : g + 1 ≤ w.heap.size := hg
  have H0 := Lib.hid h
  clear h
  obtain ⟨ii, j1, j2, j3, j4⟩ := info_vw'
  have Jii := Lib.hid (And.intro j1 (And.intro j2 (And.intro j3 j4)))
  clear j1 j2 j3 j4
  obtain ⟨ss, j1, j2, j3, j4⟩ := info_str'
  have Jss := Lib.hid (And.intro j1 (And.intro j2 (And.intro j3 j4)))
  clear j1 j2 j3 j4
  go_enter Tryz.func84, Tryz.ntmps84
  go_wp2_with fail
  with_reducible refine (l17Good_any g _ (by (repeat (first | (with_reducible exact H0.out) | (with_reducible refine SrcOk.alloc ?_ _) | (with_reducible refine SrcOk.set ?_ ?_ _) | (with_reducible refine SrcOk.drewN ?_ _) | (with_reducible refine SrcOk.drew ?_) | (with_reducible refine SrcOk.later _ ?_) | (with_reducible refine SrcOk.after _ ?_ ?_) | (dsimp only; omega) | omega | ((try simp only [World.size_alloc, World.size_setCell, World.size_drew]); omega))))).mono ?_
  rintro e w' ⟨R, a, n, c, rfl, hn6, hG, z1, rfl, hsrc⟩
  have H1 := Lib.hid hsrc
  have hs1 := z1.btw.size
  replace hG := Lib.hid hG
  clear hsrc
  go_wp2_with fail
  with_reducible refine (next_any g 24 _ (by (repeat (first | (with_reducible exact H1.out) | (with_reducible refine SrcOk.alloc ?_ _) | (with_reducible refine SrcOk.set ?_ ?_ _) | (with_reducible refine SrcOk.drewN ?_ _) | (with_reducible refine SrcOk.drew ?_) | (with_reducible refine SrcOk.later _ ?_) | (with_reducible refine SrcOk.after _ ?_ ?_) | (dsimp only; omega) | omega | ((try simp only [World.size_alloc, World.size_setCell, World.size_drew]); omega))))).mono ?_
  rintro e w' ⟨r, hdraw, rfl, z2, rfl, hsrc⟩
  have hsz2 := z2.btw.size
  (try simp only [World.size_alloc, World.size_setCell, World.size_drew] at hsz2)
  have H2 := Lib.hid hsrc
  clear hsrc
  obtain ⟨r0, r1⟩ := hdraw
  have hB2 : Between g (g + 1) w z2.w := by (repeat (first | (with_reducible exact Between.refl _ _ _) | (with_reducible refine Between.drew ?_) | (with_reducible refine Between.drewN ?_ _) | (with_reducible refine btw_own ?_ ?_ _) | (with_reducible refine btw_later _ ?_) | (with_reducible refine btw_alloc ?_ _) | (with_reducible refine btw_after _ ?_) | (with_reducible refine btw_beyond _ ?_ ?_) | (with_reducible refine Aft.btw _ ?_ ?_) | (with_reducible assumption) | (dsimp only; omega) | omega | ((try simp only [World.size_alloc, World.size_setCell, World.size_drew]); omega)))
  have hG2 : GRg z2.w w.heap.size R a n c := hG.out.keep (g := g) (g' := g + 1) (by (repeat (first | (with_reducible exact Between.refl _ _ _) | (with_reducible refine Between.drew ?_) | (with_reducible refine Between.drewN ?_ _) | (with_reducible refine btw_own ?_ ?_ _) | (with_reducible refine btw_later _ ?_) | (with_reducible refine btw_alloc ?_ _) | (with_reducible refine btw_after _ ?_) | (with_reducible refine btw_beyond _ ?_ ?_) | (with_reducible refine Aft.btw _ ?_ ?_) | (with_reducible assumption) | (dsimp only; omega) | omega | ((try simp only [World.size_alloc, World.size_setCell, World.size_drew]); omega)))) (by omega)
  have u2 : w.heap.size ≤ z2.w.heap.size := by omega
  replace hG2 := Lib.hid hG2
  replace hB2 := Lib.hid hB2
  clear hG
  go_upto_if 16 with fail
  go_cut [4] from 17 to 18 (fun t4 wx => ∃ (R : List (List Pt)) (a : Option Addr) (n c : Nat), t4 = .slice a n c ∧ n ≤ 7 ∧ GRg wx w.heap.size R a n c ∧ Between g (g + 1) w wx ∧ SrcOk wx g)
  case first =>
    by_cases hr : r = 0
    · subst hr
      go_wp2_with fail
      with_reducible refine (l17Draw_any g _ (by (repeat (first | (with_reducible exact H2.out) | (with_reducible refine SrcOk.alloc ?_ _) | (with_reducible refine SrcOk.set ?_ ?_ _) | (with_reducible refine SrcOk.drewN ?_ _) | (with_reducible refine SrcOk.drew ?_) | (with_reducible refine SrcOk.later _ ?_) | (with_reducible refine SrcOk.after _ ?_ ?_) | (dsimp only; omega) | omega | ((try simp only [World.size_alloc, World.size_setCell, World.size_drew]); omega))))).mono ?_
      rintro e w' ⟨R3, a3, n3, c3, rfl, hn7, hG3, z3, rfl, hsrc⟩
      have H3 := Lib.hid hsrc
      have hs3 := z3.btw.size
      have hb3 : Between g (g + 1) w z3.w := by have h := hB2.out; (repeat (first | (with_reducible exact Between.refl _ _ _) | (with_reducible refine Between.drew ?_) | (with_reducible refine Between.drewN ?_ _) | (with_reducible refine btw_own ?_ ?_ _) | (with_reducible refine btw_later _ ?_) | (with_reducible refine btw_alloc ?_ _) | (with_reducible refine btw_after _ ?_) | (with_reducible refine btw_beyond _ ?_ ?_) | (with_reducible refine Aft.btw _ ?_ ?_) | (with_reducible assumption) | (dsimp only; omega) | omega | ((try simp only [World.size_alloc, World.size_setCell, World.size_drew]); omega)))
      replace hG3 := Lib.hid hG3
      replace hb3 := Lib.hid hb3
      clear hsrc
      go_wp2_with fail
      go_meet
      exact ⟨R3, a3, n3, c3, rfl, hn7, hG3.out.wide u2, hb3.out, H3.out⟩
    · have e0 : (r == 0) = false := by simpa using hr
      go_wp2_with fail
      go_meet
      exact ⟨R, a, n, c, rfl, by omega, hG2.out, hB2.out, H2.out⟩
  case rest =>
    clear hG2 hB2 H2 H1
    obtain ⟨R, a, n, c, rfl, hn7, hG, hB, hS⟩ := hcut
    have hN := hB.size
    replace hG := Lib.hid hG
    replace hB := Lib.hid hB
    replace hS := Lib.hid hS
    obtain ⟨W00, hW00⟩ : ∃ W00, (wc.alloc (.cells #[.string ⟨#[101, 97, 115, 116]⟩, .string ⟨#[110, 111, 114, 116, 104]⟩, .string ⟨#[115, 111, 117, 116, 104]⟩, .string ⟨#[119, 101, 115, 116]⟩] 9)) = W00 := ⟨_, rfl⟩
    have hT0 := Lib.hid (show TxtZ W00 wc.heap.size 4 64 by rw [← hW00]; exact TxtZ.made (by rfl) (by decide) (by decide))
    have hN0 : W00.heap.size = wc.heap.size + 1 := by rw [← hW00]; simp only [World.size_alloc]
    have hG0 := Lib.hid (show GRg W00 w.heap.size R a n c by rw [← hW00]; exact hG.out.bel ((Below.refl _ _).alloc (Nat.le_refl _) _))
    have hB0 := Lib.hid (show Between g (g + 1) w W00 by rw [← hW00]; exact hB.out.later ((Below.refl _ _).alloc (Nat.le_refl _) _))
    have hS0 := Lib.hid (show SrcOk W00 g by rw [← hW00]; (repeat (first | (with_reducible exact hS.out) | (with_reducible refine SrcOk.alloc ?_ _) | (with_reducible refine SrcOk.set ?_ ?_ _) | (with_reducible refine SrcOk.drewN ?_ _) | (with_reducible refine SrcOk.drew ?_) | (with_reducible refine SrcOk.later _ ?_) | (with_reducible refine SrcOk.after _ ?_ ?_) | (dsimp only; omega) | omega | ((try simp only [World.size_alloc, World.size_setCell, World.size_drew]); omega))))
    have FIN := Lib.hid (fun (W' : World) (T : List Vw) (b : Option Addr) (m d : Nat) (hm : m ≤ 5) (h4 : GVw W' (wc.heap.size + 1) T b m d) (hb : Between g (g + 1) W00 W') (hs : SrcOk W' g) =>
      RetVwD.mk (w := w) (e := .returned (.tuple #[.slice a n c, .slice b m d])) rfl hn7 hm (hG0.out.keep (g := g) (g' := g + 1) hb hg') (h4.wide (by omega)) (hB0.out.trans hb) hs)
    have HO := Lib.hid (World.ownsRow_lit (base := wc.heap.size + 1) (e := 64) (size := 2) W00 #[] 0 (by omega) (by unfold maxLen; omega) rfl)
    rw [hN0] at HO
    have hg1 : g + 1 ≤ wc.heap.size := by omega
    go_upto_region 5 with fail
    try rw [hW00]
    clear hW00 hG hB hS hG0 hB0
    obtain ⟨W01, hW01⟩ : ∃ W01, W00.alloc (.cells #[] 64) = W01 := ⟨_, rfl⟩
    rw [hW01] at HO
    have hB1 := Lib.hid (show Between g (g + 1) W00 W01 by rw [← hW01]; exact (Between.refl _ _ _).later ((Below.refl _ _).alloc (Nat.le_refl _) _))
    have hN1 : W01.heap.size = wc.heap.size + 2 := by rw [← hW01]; simp only [World.size_alloc]; omega
    have hS1 := Lib.hid (show SrcOk W01 g by rw [← hW01]; (repeat (first | (with_reducible exact hS0.out) | (with_reducible refine SrcOk.alloc ?_ _) | (with_reducible refine SrcOk.set ?_ ?_ _) | (with_reducible refine SrcOk.drewN ?_ _) | (with_reducible refine SrcOk.drew ?_) | (with_reducible refine SrcOk.later _ ?_) | (with_reducible refine SrcOk.after _ ?_ ?_) | (dsimp only; omega) | omega | ((try simp only [World.size_alloc, World.size_setCell, World.size_drew]); omega))))
    have HS := Lib.hid (World.ownsRow_lit (base := wc.heap.size + 2) (e := 9) (size := 1) W01 #[] 0 (by omega) (by unfold maxLen; omega) rfl)
    rw [hN1] at HS
    go_upto_region 6 with fail
    try rw [hW01]
    clear hW01 hS0
    go_wp2_with fail
    go_loopw [7, 8] (fun t7 t8 wr => ∃ (i : Nat) (B : List ByteArray) (ab : Option Addr) (cb : Nat), i ≤ n ∧ t8 = .int .i64 i ∧ t7 = .slice ab i cb ∧ B.length = i ∧ (∀ s ∈ B, s.size ≤ 64) ∧ wr.ownsRow (wc.heap.size + 2) 9 1 (.slice ab i cb) i (strCells B) ∧ SrcOk wr g ∧ Between g (g + 1) W01 wr) (fun _ t8 _ => n - (intOf t8).toNat)
    case atStart => exact ⟨0, [], _, _, by omega, rfl, rfl, rfl, (fun s hs => by cases hs), HS.out, by (repeat (first | (with_reducible exact hS1.out) | (with_reducible refine SrcOk.alloc ?_ _) | (with_reducible refine SrcOk.set ?_ ?_ _) | (with_reducible refine SrcOk.drewN ?_ _) | (with_reducible refine SrcOk.drew ?_) | (with_reducible refine SrcOk.later _ ?_) | (with_reducible refine SrcOk.after _ ?_ ?_) | (dsimp only; omega) | omega | ((try simp only [World.size_alloc, World.size_setCell, World.size_drew]); omega))), by (repeat (first | (with_reducible exact Between.refl _ _ _) | (with_reducible refine Between.drew ?_) | (with_reducible refine Between.drewN ?_ _) | (with_reducible refine btw_own ?_ ?_ _) | (with_reducible refine btw_later _ ?_) | (with_reducible refine btw_alloc ?_ _) | (with_reducible refine btw_after _ ?_) | (with_reducible refine btw_beyond _ ?_ ?_) | (with_reducible refine Aft.btw _ ?_ ?_) | (with_reducible assumption) | (dsimp only; omega) | omega | ((try simp only [World.size_alloc, World.size_setCell, World.size_drew]); omega)))⟩
    case round =>
      obtain ⟨i, B, ab, cb, hi, rfl, rfl, hBl, hB64, ho, hs, hb⟩ := hrel
      obtain ⟨q, rfl⟩ := AfterC.mk hb
      have hqs := q.btw.size
      replace hs := Lib.hid hs
      replace hB64 := Lib.hid hB64
      clear hb hS1 HS
      by_cases hlt : i < n
      · have hi1 : (i : Int) < (n : Int) := by omega
        have hT := Lib.hid (TxtZ.made (w := q.w) (cs := #[.string ⟨#[97, 108, 98, 97]⟩, .string ⟨#[98, 111, 114, 111]⟩, .string ⟨#[99, 97, 112, 101]⟩, .string ⟨#[]⟩]) (e := 9) (n := 4) (z := 64) (by rfl) (by decide) (by decide))
        obtain ⟨gg, gg', hgg0, hgg, hgg1, hog, hgo⟩ := own_tightQ (Owns.of ho) (by omega)
        have hgl := hog.lt
        replace hog := Lib.hid hog
        clear ho hgo
        go_wp2_with fail
        with_reducible refine (next_any g 4 _ (by (repeat (first | (with_reducible exact hs.out) | (with_reducible refine SrcOk.alloc ?_ _) | (with_reducible refine SrcOk.set ?_ ?_ _) | (with_reducible refine SrcOk.drewN ?_ _) | (with_reducible refine SrcOk.drew ?_) | (with_reducible refine SrcOk.later _ ?_) | (with_reducible refine SrcOk.after _ ?_ ?_) | (dsimp only; omega) | omega | ((try simp only [World.size_alloc, World.size_setCell, World.size_drew]); omega))))).mono ?_
        rintro e w' ⟨x, hdraw, rfl, z3, rfl, hsrc⟩
        have hsz3 := z3.btw.size
        (try simp only [World.size_alloc, World.size_setCell, World.size_drew] at hsz3)
        have H3 := Lib.hid hsrc
        clear hsrc
        obtain ⟨x0, x1⟩ := hdraw
        obtain ⟨k, rfl⟩ := Int.eq_ofNat_of_zero_le x0
        have hk : k < 4 := by omega
        have hk1 : (k : Int) < 4 := by omega
        have hT3 := hT.out.after z3 (.inr (by omega))
        obtain ⟨s, hsc, hs64⟩ := hT3.2 k hk
        have hlt3 := hT3.1
        have ho3 := Lib.hid (show Owns z3.w gg gg' 9 1 i ab cb (strCells B) by (repeat (first | (with_reducible exact hog.out) | (with_reducible refine owns_after _ ?_ ?_) | (with_reducible refine owns_later _ ?_ ?_) | (with_reducible refine owns_alloc ?_ _) | (with_reducible refine owns_set ?_ ?_ _) | (with_reducible refine Owns.drewN ?_ _) | (with_reducible refine owns_drew ?_) | (dsimp only; omega) | omega | ((try simp only [World.size_alloc, World.size_setCell, World.size_drew]); omega))))
        have hb3 : Between g (g + 1) W01 z3.w := by (repeat (first | (with_reducible exact Between.refl _ _ _) | (with_reducible refine Between.drew ?_) | (with_reducible refine Between.drewN ?_ _) | (with_reducible refine btw_own ?_ ?_ _) | (with_reducible refine btw_later _ ?_) | (with_reducible refine btw_alloc ?_ _) | (with_reducible refine btw_after _ ?_) | (with_reducible refine btw_beyond _ ?_ ?_) | (with_reducible refine Aft.btw _ ?_ ?_) | (with_reducible assumption) | (dsimp only; omega) | omega | ((try simp only [World.size_alloc, World.size_setCell, World.size_drew]); omega)))
        replace hb3 := Lib.hid hb3
        clear hT hT3 hog
        go_wp2_with (at_builtin; (refine wpList_append_apart _ rfl _ _ _ rfl 9 ss _ 1 16 Tryz.underlying46 Jss.out.1 Jss.out.2.1 Jss.out.2.2.1 Jss.out.2.2.2 rfl (by decide) (gg) (gg') ?qb22 _ _ _ (strCells B) rfl ?qb23 ?qb29 _ _ _ ([.string s]) rfl ?qb24 ?qb25 ?qb26 ?qb27 ?qb28 ?_); (case qb22 => (first | (dsimp only; omega) | omega | (simp only [World.size_alloc, World.size_setCell, World.size_drew]; omega))); (case qb23 => exact own_bel ho3.out.own bb); (case qb29 => exact hgl); (case qb24 => (first | rfl | (simp [boolCells]; done) | (simp [intCells]; done) | (simp; done) | (first | omega | (simp only [List.length_append, List.length_cons, List.length_nil]; omega)))); (case qb25 => exact Row.made _ _ _); (case qb26 => exact one_tx _); (case qb27 => (unfold maxLen; (first | omega | (simp only [List.length_append, List.length_cons, List.length_nil]; omega)))); (case qb28 => (first | omega | (simp only [List.length_append, List.length_cons, List.length_nil]; omega))); intro a9 c9 x9 hown9 hat9; clear hat9; replace hown9 := Lib.hid hown9)
        go_roundw
        case rel =>
          refine ⟨i + 1, B ++ [s], a9, c9, by omega, by go_num, rfl, by simp [hBl], fun s' hs' => ?_, ?_, ?_, ?_⟩
          · rcases List.mem_append.1 hs' with h | h
            · exact hB64.out s' h
            · rw [List.mem_singleton.1 h]; exact hs64
          · rw [show strCells (B ++ [s]) = strCells B ++ [.string s] by simp [strCells]]
            exact own_mono hown9.out (by omega)
          · (repeat (first | (with_reducible exact H3.out) | (with_reducible refine SrcOk.alloc ?_ _) | (with_reducible refine SrcOk.set ?_ ?_ _) | (with_reducible refine SrcOk.drewN ?_ _) | (with_reducible refine SrcOk.drew ?_) | (with_reducible refine SrcOk.later _ ?_) | (with_reducible refine SrcOk.after _ ?_ ?_) | (dsimp only; omega) | omega | ((try simp only [World.size_alloc, World.size_setCell, World.size_drew]); omega)))
          · exact btw_over (hb3.out.later bb) x9.btw (by omega)
        case measure => first | (simp [intOf]; done) | (simp [intOf]; omega) | omega
      · obtain rfl : i = n := by omega
        have hOv := Lib.hid (own_btw HO.out q.btw fun k hk => .inr (by have e : wc.heap.size + 1 = k := by simpa [Value.ownBlock] using hk
                                                                       omega))
        have hTq := Lib.hid ((hT0.out.keep hB1.out (.inr (by omega))).after q (.inr (by omega)))
        have hBq := Lib.hid (hB1.out.trans q.btw)
        have hBl1 : (strCells B).length = i := by simp [strCells, hBl]
        have hSq := Lib.hid (show SrcOk q.w g from hs.out)
        have hoq : ∀ p : Addr, ab = some p → wc.heap.size + 2 ≤ p.block ∧ p.block < q.w.heap.size := fun p hp => by
          subst hp
          exact ho.lt p.block rfl
        replace hoq := Lib.hid hoq
        replace ho := Lib.hid ho
        clear hT0 HO hB1 hs
        go_wp2_with fail
        go_loopw [6, 9] (fun t6 t9 wr => ∃ (k m : Nat) (T : List Vw) (b : Option Addr) (d : Nat), k ≤ 4 ∧ m ≤ k ∧ t9 = .int .i64 k ∧ t6 = .slice b m d ∧ GVw wr (wc.heap.size + 1) T b m d ∧ (∀ v ∈ T, v.own.length = i) ∧ (∀ p : Addr, b = some p → p.block = wc.heap.size + 1 ∨ q.w.heap.size ≤ p.block) ∧ wr.ownsRow (wc.heap.size + 2) 9 1 (.slice ab i cb) i (strCells B) ∧ TxtZ wr wc.heap.size 4 64 ∧ SrcOk wr g ∧ Between g (g + 1) W00 wr ∧ q.w.heap.size ≤ wr.heap.size) (fun _ t9 _ => 4 - (intOf t9).toNat)
        case atStart => exact ⟨0, 0, [], _, _, by omega, by omega, rfl, rfl, GVw.nil hOv.out, (fun v hv => by cases hv), (fun p hp => by cases hp; exact .inl rfl), ho.out, hTq.out, hSq.out, hBq.out, Nat.le_refl _⟩
        case round =>
          obtain ⟨k, m, T, b, d, hk4, hmk, rfl, rfl, hGv, hTi, hbp, hob, hTx, hs, hb, hqv⟩ := hrel
          obtain ⟨v, rfl⟩ := AfterC.mk hb
          have hvs := v.btw.size
          replace hs := Lib.hid hs
          replace hGv := Lib.hid hGv
          replace hTi := Lib.hid hTi
          replace hbp := Lib.hid hbp
          replace hob := Lib.hid hob
          replace hTx := Lib.hid hTx
          clear hb hSq hBq hTq hOv ho
          by_cases hlt4 : k < 4
          · have hk1 : (k : Int) < 4 := by omega
            go_wp2_with fail
            with_reducible refine (next_any g 3 _ (by (repeat (first | (with_reducible exact hs.out) | (with_reducible refine SrcOk.alloc ?_ _) | (with_reducible refine SrcOk.set ?_ ?_ _) | (with_reducible refine SrcOk.drewN ?_ _) | (with_reducible refine SrcOk.drew ?_) | (with_reducible refine SrcOk.later _ ?_) | (with_reducible refine SrcOk.after _ ?_ ?_) | (dsimp only; omega) | omega | ((try simp only [World.size_alloc, World.size_setCell, World.size_drew]); omega))))).mono ?_
            rintro e w' ⟨x, hdraw, rfl, z3, rfl, hsrc⟩
            have hsz3 := z3.btw.size
            (try simp only [World.size_alloc, World.size_setCell, World.size_drew] at hsz3)
            have H3 := Lib.hid hsrc
            clear hsrc
            obtain ⟨x0, x1⟩ := hdraw
            have hG3 := Lib.hid (hGv.out.keep (g := g) (g' := g + 1) z3.btw (by omega))
            have hT3 := Lib.hid (hTx.out.after z3 (.inr (by omega)))
            have ho3 := Lib.hid (own_btw hob.out z3.btw fun j hj => .inr (by have := (hob.out.lt j hj).1; omega))
            have hb3 := Lib.hid (v.btw.trans z3.btw)
            clear hGv hTx hob
            by_cases hx : 0 < x
            · have hxg : x > 0 := hx
              have HE := Lib.hid (World.ownsRow_lit (base := z3.w.heap.size) (e := 9) (size := 1) z3.w #[] 0 (by omega) (by unfold maxLen; omega) rfl)
              have hor3 := Lib.hid (Row.of_own ho3.out)
              go_wp2_with (at_builtin; (refine wpList_append_later _ rfl _ _ _ rfl 9 ss _ 1 16 Tryz.underlying46 Jss.out.1 Jss.out.2.1 Jss.out.2.2.1 Jss.out.2.2.2 rfl (by decide) (z3.w) ?qa1 _ _ _ ([]) rfl ?qa2 _ _ _ (strCells B) rfl ?qa3 ?qa4 ?qa5 ?qa6 ?qa7 ?_); (case qa1 => (exact bb)); (case qa2 => exact HE.out); (case qa3 => (first | rfl | (simp [boolCells]; done) | (simp [intCells]; done) | (simp; done) | (first | omega | (simp only [List.length_append, List.length_cons, List.length_nil]; omega)))); (case qa4 => exact hor3.out.bel bb); (case qa5 => exact one_str _); (case qa6 => (unfold maxLen; (first | omega | (simp only [List.length_append, List.length_cons, List.length_nil]; omega)))); (case qa7 => (first | omega | (simp only [List.length_append, List.length_cons, List.length_nil]; omega))); intro a4 c4 x4 hown4; simp only [Nat.zero_add, List.nil_append] at hown4; replace hown4 := Lib.hid hown4)
              have hs4 := x4.bel.size
              have hO4 := Lib.hid (Owns.of hown4.out)
              have hoge4 := Lib.hid ((Owns.of hown4.out).ge)
              with_reducible refine (next_any g 3 _ (by (repeat (first | (with_reducible exact H3.out) | (with_reducible refine SrcOk.alloc ?_ _) | (with_reducible refine SrcOk.set ?_ ?_ _) | (with_reducible refine SrcOk.drewN ?_ _) | (with_reducible refine SrcOk.drew ?_) | (with_reducible refine SrcOk.later _ ?_) | (with_reducible refine SrcOk.after _ ?_ ?_) | (dsimp only; omega) | omega | ((try simp only [World.size_alloc, World.size_setCell, World.size_drew]); omega))))).mono ?_
              rintro e w' ⟨y, hdraw, rfl, z5, rfl, hsrc⟩
              have H5 := Lib.hid hsrc
              have hs5 := z5.btw.size
              obtain ⟨y0, y1⟩ := hdraw
              clear hsrc
              obtain ⟨m0, rfl⟩ := Int.eq_ofNat_of_zero_le y0
              have hb5 : Between g (g + 1) z3.w z5.w := by (repeat (first | (with_reducible exact Between.refl _ _ _) | (with_reducible refine Between.drew ?_) | (with_reducible refine Between.drewN ?_ _) | (with_reducible refine btw_own ?_ ?_ _) | (with_reducible refine btw_later _ ?_) | (with_reducible refine btw_alloc ?_ _) | (with_reducible refine btw_after _ ?_) | (with_reducible refine btw_beyond _ ?_ ?_) | (with_reducible refine Aft.btw _ ?_ ?_) | (with_reducible assumption) | (dsimp only; omega) | omega | ((try simp only [World.size_alloc, World.size_setCell, World.size_drew]); omega)))
              have hO5 := Lib.hid (show Owns z5.w z3.w.heap.size x4.w.heap.size 9 1 i a4 c4 (strCells B) by (repeat (first | (with_reducible exact hO4.out) | (with_reducible refine owns_after _ ?_ ?_) | (with_reducible refine owns_later _ ?_ ?_) | (with_reducible refine owns_alloc ?_ _) | (with_reducible refine owns_set ?_ ?_ _) | (with_reducible refine Owns.drewN ?_ _) | (with_reducible refine owns_drew ?_) | (dsimp only; omega) | omega | ((try simp only [World.size_alloc, World.size_setCell, World.size_drew]); omega))))
              replace hb5 := Lib.hid hb5
              go_wp2_with fail
              go_loopw [11] (fun t11 wr => ∃ (j : Nat) (M : List ByteArray), j ≤ 3 ∧ t11 = .int .i64 j ∧ M.length = i ∧ (∀ s ∈ M, s.size ≤ 64) ∧ Owns wr z3.w.heap.size x4.w.heap.size 9 1 i a4 c4 (strCells M) ∧ SrcOk wr g ∧ Between g (g + 1) z3.w wr ∧ x4.w.heap.size ≤ wr.heap.size) (fun t11 _ => (intOf t11).toNat)
              case atStart => exact ⟨m0, B, by omega, rfl, hBl, hB64.out, hO5.out, H5.out, hb5.out, by omega⟩
              case round =>
                obtain ⟨j, M, hj3, rfl, hMl, hM64, hO, hs, hb, hx4⟩ := hrel
                obtain ⟨u, rfl⟩ := AfterC.mk hb
                have hus := u.btw.size
                replace hs := Lib.hid hs
                replace hM64 := Lib.hid hM64
                replace hO := Lib.hid hO
                clear hb hb5 hO5 H5 hO4
                by_cases hj : 0 < j ∧ 0 < i
                · obtain ⟨hj0, hi0⟩ := hj
                  have hj1 : (0 : Int) < (j : Int) := by omega
                  have hi1 : (0 : Int) < (i : Int) := by omega
                  go_wp2_with fail
                  with_reducible refine (next_any g (i : Int) _ (by (repeat (first | (with_reducible exact hs.out) | (with_reducible refine SrcOk.alloc ?_ _) | (with_reducible refine SrcOk.set ?_ ?_ _) | (with_reducible refine SrcOk.drewN ?_ _) | (with_reducible refine SrcOk.drew ?_) | (with_reducible refine SrcOk.later _ ?_) | (with_reducible refine SrcOk.after _ ?_ ?_) | (dsimp only; omega) | omega | ((try simp only [World.size_alloc, World.size_setCell, World.size_drew]); omega))))).mono ?_
                  rintro e w' ⟨y3, hdraw, rfl, z6, rfl, hsrc⟩
                  have hsz6 := z6.btw.size
                  (try simp only [World.size_alloc, World.size_setCell, World.size_drew] at hsz6)
                  have H6 := Lib.hid hsrc
                  clear hsrc
                  obtain ⟨y30, y31⟩ := hdraw
                  obtain ⟨l, rfl⟩ := Int.eq_ofNat_of_zero_le y30
                  have hl : l < i := by omega
                  have hl1 : (l : Int) < (i : Int) := by omega
                  have hT := Lib.hid (TxtZ.made (w := z6.w) (cs := #[.string ⟨#[97, 108, 98, 97]⟩, .string ⟨#[98, 111, 114, 111]⟩, .string ⟨#[99, 97, 112, 101]⟩, .string ⟨#[]⟩]) (e := 9) (n := 4) (z := 64) (by rfl) (by decide) (by decide))
                  have hO6 : Owns z6.w z3.w.heap.size x4.w.heap.size 9 1 i a4 c4 (strCells M) := by (repeat (first | (with_reducible exact hO.out) | (with_reducible refine owns_after _ ?_ ?_) | (with_reducible refine owns_later _ ?_ ?_) | (with_reducible refine owns_alloc ?_ _) | (with_reducible refine owns_set ?_ ?_ _) | (with_reducible refine Owns.drewN ?_ _) | (with_reducible refine owns_drew ?_) | (dsimp only; omega) | omega | ((try simp only [World.size_alloc, World.size_setCell, World.size_drew]); omega)))
                  replace hO6 := Lib.hid hO6
                  go_wp2_with fail
                  with_reducible refine (next_any g 4 _ (by (repeat (first | (with_reducible exact H6.out) | (with_reducible refine SrcOk.alloc ?_ _) | (with_reducible refine SrcOk.set ?_ ?_ _) | (with_reducible refine SrcOk.drewN ?_ _) | (with_reducible refine SrcOk.drew ?_) | (with_reducible refine SrcOk.later _ ?_) | (with_reducible refine SrcOk.after _ ?_ ?_) | (dsimp only; omega) | omega | ((try simp only [World.size_alloc, World.size_setCell, World.size_drew]); omega))))).mono ?_
                  rintro e w' ⟨y4, hdraw, rfl, z7, rfl, hsrc⟩
                  have hsz7 := z7.btw.size
                  (try simp only [World.size_alloc, World.size_setCell, World.size_drew] at hsz7)
                  have H7 := Lib.hid hsrc
                  clear hsrc
                  obtain ⟨y40, y41⟩ := hdraw
                  obtain ⟨f, rfl⟩ := Int.eq_ofNat_of_zero_le y40
                  have hf : f < 4 := by omega
                  have hf1 : (f : Int) < 4 := by omega
                  have hT7 := hT.out.after z7 (.inr (by omega))
                  obtain ⟨s, hsc, hs64⟩ := hT7.2 f hf
                  have hlt7 := hT7.1
                  have hO7 : Owns z7.w z3.w.heap.size x4.w.heap.size 9 1 i a4 c4 (strCells M) := by (repeat (first | (with_reducible exact hO6.out) | (with_reducible refine owns_after _ ?_ ?_) | (with_reducible refine owns_later _ ?_ ?_) | (with_reducible refine owns_alloc ?_ _) | (with_reducible refine owns_set ?_ ?_ _) | (with_reducible refine Owns.drewN ?_ _) | (with_reducible refine owns_drew ?_) | (dsimp only; omega) | omega | ((try simp only [World.size_alloc, World.size_setCell, World.size_drew]); omega)))
                  obtain ⟨g0, rfl, hg0, hg0', hc0, hf0⟩ := hO7.at_ (j := l) (by omega)
                  have hMl1 : (strCells M)[l]? = some (.string M[l]) := by simp [strCells, show l < M.length by omega]
                  rw [hMl1] at hc0
                  replace hO7 := Lib.hid hO7
                  clear hT hT7 hO hO6 hMl1
                  go_wp2_with fail
                  go_roundw
                  case rel =>
                    refine ⟨j - 1, M.set l s, by omega, by go_num, by simpa using hMl, fun s' hs' => ?_, ?_, ?_, ?_, ?_⟩
                    · rcases List.mem_or_eq_of_mem_set hs' with h | rfl
                      · exact hM64.out s' h
                      · exact hs64
                    · rw [show strCells (M.set l s) = (strCells M).set l (.string s) by simp [strCells, List.map_set]]
                      exact hO7.out.set _
                    · (repeat (first | (with_reducible exact H7.out) | (with_reducible refine SrcOk.alloc ?_ _) | (with_reducible refine SrcOk.set ?_ ?_ _) | (with_reducible refine SrcOk.drewN ?_ _) | (with_reducible refine SrcOk.drew ?_) | (with_reducible refine SrcOk.later _ ?_) | (with_reducible refine SrcOk.after _ ?_ ?_) | (dsimp only; omega) | omega | ((try simp only [World.size_alloc, World.size_setCell, World.size_drew]); omega)))
                    · refine btw_own ?_ (by dsimp only; omega) _
                      (repeat (first | (with_reducible exact Between.refl _ _ _) | (with_reducible refine Between.drew ?_) | (with_reducible refine Between.drewN ?_ _) | (with_reducible refine btw_own ?_ ?_ _) | (with_reducible refine btw_later _ ?_) | (with_reducible refine btw_alloc ?_ _) | (with_reducible refine btw_after _ ?_) | (with_reducible refine btw_beyond _ ?_ ?_) | (with_reducible refine Aft.btw _ ?_ ?_) | (with_reducible assumption) | (dsimp only; omega) | omega | ((try simp only [World.size_alloc, World.size_setCell, World.size_drew]); omega)))
                    · (try simp only [World.size_setCell]); omega
                  case measure => first | (simp [intOf]; done) | (simp [intOf]; omega) | omega
                · have hcond : (¬ (0 : Int) < (j : Int)) ∨ ((0 : Int) < (j : Int) ∧ ¬ (0 : Int) < (i : Int)) := by omega
                  have hbu : Between g (g + 1) z3.w u.w := u.btw
                  have hGu := hG3.out.keep hbu (by omega)
                  have hTu := hT3.out.keep hbu (.inr (by omega))
                  have hou := Lib.hid (own_btw ho3.out hbu fun j hj => .inr (by have := (ho3.out.lt j hj).1; omega))
                  obtain ⟨s, hsc, hs64⟩ := hTu.2 k hlt4
                  have hTl := hTu.1
                  obtain ⟨hGl, hGo, vs, hv, hrows⟩ := hGu
                  obtain ⟨gg, gg', hgg0, hgg, hgg1, hog, hgo⟩ := own_tightQ (Owns.of hv) (by omega)
                  have hvl : vs.length = m * 2 := hv.1
                  have hgl := hog.lt
                  have hab : ∀ j, wc.heap.size + 2 ≤ j → j < q.w.heap.size → j < gg ∨ gg' ≤ j := fun j h1 h2 => by
                    rcases Nat.lt_or_ge j gg with h | h
                    · exact .inl h
                    · rcases Nat.lt_or_ge j gg' with h' | h'
                      · obtain ⟨p, e1, e2⟩ := hgo j h h'
                        have := hbp.out p e1
                        omega
                      · exact .inr h'
                  have hab0 : wc.heap.size < gg := by omega
                  have hxa : ∀ p q : Addr, a4 = some p → b = some q → p.block ≠ q.block := fun p q hp hq => by
                    have h1 := (hog.own.lt q.block (by rw [hq]; rfl)).2
                    have h2 := hoge4.out p hp
                    have h3 := hgl q hq
                    have h4 := (hv.lt q.block (by rw [hq]; rfl)).2
                    have h5 := hG3.out.own
                    obtain ⟨vs5, h6, _⟩ := h5
                    have h7 := (h6.lt q.block (by rw [hq]; rfl)).2
                    omega
                  have hGG := Lib.hid (show GVw u.w (wc.heap.size + 1) T b m d from ⟨hGl, hGo, vs, hv, hrows⟩)
                  replace hog := Lib.hid hog
                  replace hgo := Lib.hid hgo
                  replace hrows := Lib.hid hrows
                  replace hGo := Lib.hid hGo
                  replace hGl := Lib.hid hGl
                  replace hTu := Lib.hid hTu
                  replace hab := Lib.hid hab
                  replace hxa := Lib.hid hxa
                  have hb0u := Lib.hid (hb3.out.trans hbu)
                  have hSm := Lib.hid (show SmV ⟨s, M⟩ from ⟨hs64, by dsimp only; omega, hM64.out⟩)
                  have hOw := Lib.hid hO.out.own
                  clear hbu hv hG3 hT3 ho3 hor3 hb3 HE hown4 hO hGG
                  rcases hcond with hc | ⟨hc, hc2⟩
                  all_goals
                    go_wp2_with (at_builtin; (refine wpList_append_apart _ rfl _ _ _ rfl 64 ii _ 2 40 Tryz.underlying31 Jii.out.1 Jii.out.2.1 Jii.out.2.2.1 Jii.out.2.2.2 rfl (by decide) (gg) (gg') ?qb30 _ _ _ (vs) rfl ?qb31 ?qb37 _ _ _ ([.string s, .slice a4 i c4]) rfl ?qb32 ?qb33 ?qb34 ?qb35 ?qb36 ?_); (case qb30 => (first | (dsimp only; omega) | omega | (simp only [World.size_alloc, World.size_setCell, World.size_drew]; omega))); (case qb31 => exact own_bel hog.out.own bb); (case qb37 => exact hgl); (case qb32 => (first | rfl | (simp [boolCells]; done) | (simp [intCells]; done) | (simp; done) | (first | omega | (simp only [List.length_append, List.length_cons, List.length_nil]; omega)))); (case qb33 => exact Row.made _ _ _); (case qb34 => exact one_vwc _ _ _ _); (case qb35 => (unfold maxLen; (first | omega | (simp only [List.length_append, List.length_cons, List.length_nil]; omega)))); (case qb36 => (first | omega | (simp only [List.length_append, List.length_cons, List.length_nil]; omega))); intro a9 c9 x9 hown9 hat9; replace hat9 := Lib.hid hat9; replace hown9 := Lib.hid hown9; have hs9 := x9.btw.size; (try simp only [World.size_alloc, World.size_setCell, World.size_drew] at hs9))
                    go_roundw
                    case rel =>
                      refine ⟨k + 1, m + 1, T ++ [⟨s, M⟩], a9, c9, by omega, by omega, by go_num, rfl, ?_, fun v' hv' => ?_, fun p hp => ?_, ?_, ?_, ?_, ?_, ?_⟩
                      · have e : viewV a4 c4 ⟨s, M⟩ = [.string s, .slice a4 i c4] := by show [_, Value.slice a4 M.length c4] = _; rw [hMl]
                        refine GVw.snoc (c := d) (ai := a4) (ci := c4) (w := u.w.alloc (.cells #[.string s, .slice a4 i c4] 64)) hGl.out hGo.out (hrows.out.bel bb) hvl hgo.out x9.btw (by rw [e]; exact hown9.out) hgg0 hat9.out hSm.out ?_ hxa.out
                        dsimp only
                        rw [hMl]
                        exact own_mono (own_bel hOw.out bb) (by omega)
                      · rcases List.mem_append.1 hv' with h | h
                        · exact hTi.out v' h
                        · rw [List.mem_singleton.1 h]; exact hMl
                      · have h1 := hat9.out p hp
                        have h2 := (hown9.out.lt p.block (by rw [hp]; rfl)).1
                        simp only [World.size_alloc] at h1
                        rcases h1 with h1 | h1
                        · obtain ⟨p', e1, e2⟩ := hgo.out p.block h2 h1
                          have := hbp.out p' e1
                          omega
                        · right; omega
                      · exact own_btw (own_bel hou.out bb) x9.btw fun j hj => hab.out j (hou.out.lt j hj).1 (by
                          obtain rfl := own_zero2 (Owns.of hou.out) hj
                          exact (hoq.out _ rfl).2)
                      · exact (hTu.out.alloc _).after x9 (.inl hab0)
                      · (repeat (first | (with_reducible exact hs.out) | (with_reducible refine SrcOk.alloc ?_ _) | (with_reducible refine SrcOk.set ?_ ?_ _) | (with_reducible refine SrcOk.drewN ?_ _) | (with_reducible refine SrcOk.drew ?_) | (with_reducible refine SrcOk.later _ ?_) | (with_reducible refine SrcOk.after _ ?_ ?_) | (dsimp only; omega) | omega | ((try simp only [World.size_alloc, World.size_setCell, World.size_drew]); omega)))
                      · exact btw_over (hb0u.out.later bb) x9.btw (by omega)
                      · omega
                    case measure => first | (simp [intOf]; done) | (simp [intOf]; omega) | omega
            · have hxg : ¬ x > 0 := hx
              go_wp2_with fail
              go_roundw
              case rel => exact ⟨k + 1, m, T, b, d, by omega, by omega, by go_num, rfl, hG3.out, hTi.out, hbp.out, ho3.out, hT3.out, H3.out, hb3.out, by omega⟩
              case measure => first | (simp [intOf]; done) | (simp [intOf]; omega) | omega
          · obtain rfl : k = 4 := by omega
            have hm5 : m ≤ 4 := by omega
            go_wp2_with fail
            with_reducible refine (next_any g 24 _ (by (repeat (first | (with_reducible exact hs.out) | (with_reducible refine SrcOk.alloc ?_ _) | (with_reducible refine SrcOk.set ?_ ?_ _) | (with_reducible refine SrcOk.drewN ?_ _) | (with_reducible refine SrcOk.drew ?_) | (with_reducible refine SrcOk.later _ ?_) | (with_reducible refine SrcOk.after _ ?_ ?_) | (dsimp only; omega) | omega | ((try simp only [World.size_alloc, World.size_setCell, World.size_drew]); omega))))).mono ?_
            rintro e w' ⟨x, hdraw, rfl, z3, rfl, hsrc⟩
            have hsz3 := z3.btw.size
            (try simp only [World.size_alloc, World.size_setCell, World.size_drew] at hsz3)
            have H3 := Lib.hid hsrc
            clear hsrc
            obtain ⟨x0, x1⟩ := hdraw
            have hG3 := hGv.out.keep (g := g) (g' := g + 1) z3.btw (by omega)
            have ho3 := Lib.hid (own_btw hob.out z3.btw fun j hj => .inr (by have := (hob.out.lt j hj).1; omega))
            have hb3 := Lib.hid (v.btw.trans z3.btw)
            have hGG := Lib.hid hG3
            obtain ⟨hGl, hGo, vs, hv, hrows⟩ := hG3
            obtain ⟨gg, gg', hgg0, hgg, hgg1, hog, hgo⟩ := own_tightQ (Owns.of hv) (by omega)
            have hvl : vs.length = m * 2 := hv.1
            have hgl := hog.lt
            have hxa : ∀ p q : Addr, ab = some p → b = some q → p.block ≠ q.block := fun p q hp hq => by
              have h1 := hoq.out p hp
              have h2 := hbp.out q hq
              omega
            have hvo := Lib.hid (Owns.of hv)
            replace hog := Lib.hid hog
            replace hgo := Lib.hid hgo
            replace hrows := Lib.hid hrows
            replace hGo := Lib.hid hGo
            replace hGl := Lib.hid hGl
            replace hxa := Lib.hid hxa
            clear hTx hGv hob hv
            rcases (show x = 0 ∨ x = 1 ∨ x = 2 ∨ 3 ≤ x by omega) with rfl | rfl | rfl | hx3
            · go_wp2_with fail
              with_reducible refine (drawWord_any g _ (by (repeat (first | (with_reducible exact H3.out) | (with_reducible refine SrcOk.alloc ?_ _) | (with_reducible refine SrcOk.set ?_ ?_ _) | (with_reducible refine SrcOk.drewN ?_ _) | (with_reducible refine SrcOk.drew ?_) | (with_reducible refine SrcOk.later _ ?_) | (with_reducible refine SrcOk.after _ ?_ ?_) | (dsimp only; omega) | omega | ((try simp only [World.size_alloc, World.size_setCell, World.size_drew]); omega))))).mono ?_
              rintro e w' ⟨s, hs64, rfl, z4, rfl, hsrc⟩
              have H4 := Lib.hid hsrc
              have hs4 := z4.btw.size
              clear hsrc
              have hrows4 := Lib.hid (hrows.out.keep z4.btw (by omega))
              have hog4 := Lib.hid (show Owns z4.w gg gg' 64 2 m b d vs by (repeat (first | (with_reducible exact hog.out) | (with_reducible refine owns_after _ ?_ ?_) | (with_reducible refine owns_later _ ?_ ?_) | (with_reducible refine owns_alloc ?_ _) | (with_reducible refine owns_set ?_ ?_ _) | (with_reducible refine Owns.drewN ?_ _) | (with_reducible refine owns_drew ?_) | (dsimp only; omega) | omega | ((try simp only [World.size_alloc, World.size_setCell, World.size_drew]); omega))))
              have ho4 := Lib.hid (own_btw ho3.out z4.btw fun j hj => .inr (by have := (ho3.out.lt j hj).1; omega))
              have hb4 := Lib.hid (hb3.out.trans z4.btw)
              have hSm := Lib.hid (show SmV ⟨s, B⟩ from ⟨hs64, by dsimp only; omega, hB64.out⟩)
              clear ho3 hb3 hog hrows hvo hGG
              go_wp2_with (at_builtin; (refine wpList_append_apart _ rfl _ _ _ rfl 64 ii _ 2 40 Tryz.underlying31 Jii.out.1 Jii.out.2.1 Jii.out.2.2.1 Jii.out.2.2.2 rfl (by decide) (gg) (gg') ?qb38 _ _ _ (vs) rfl ?qb39 ?qb45 _ _ _ ([.string s, .slice ab i cb]) rfl ?qb40 ?qb41 ?qb42 ?qb43 ?qb44 ?_); (case qb38 => (first | (dsimp only; omega) | omega | (simp only [World.size_alloc, World.size_setCell, World.size_drew]; omega))); (case qb39 => exact own_bel hog4.out.own bb); (case qb45 => exact hgl); (case qb40 => (first | rfl | (simp [boolCells]; done) | (simp [intCells]; done) | (simp; done) | (first | omega | (simp only [List.length_append, List.length_cons, List.length_nil]; omega)))); (case qb41 => exact Row.made _ _ _); (case qb42 => exact one_vwc _ _ _ _); (case qb43 => (unfold maxLen; (first | omega | (simp only [List.length_append, List.length_cons, List.length_nil]; omega)))); (case qb44 => (first | omega | (simp only [List.length_append, List.length_cons, List.length_nil]; omega))); intro a9 c9 x9 hown9 hat9; replace hat9 := Lib.hid hat9; replace hown9 := Lib.hid hown9; have hs9 := x9.btw.size; (try simp only [World.size_alloc, World.size_setCell, World.size_drew] at hs9))
              refine bodyPost_ret (by simp [results, Tryz.results84, go_sem, ↓IntWalk.iteOmega, *]; try rfl) rfl ?_
              refine FIN.out _ (T ++ [⟨s, B⟩]) _ _ _ (by omega) ?_ (btw_over (hb4.out.later bb) x9.btw (by omega)) (by (repeat (first | (with_reducible exact H4.out) | (with_reducible refine SrcOk.alloc ?_ _) | (with_reducible refine SrcOk.set ?_ ?_ _) | (with_reducible refine SrcOk.drewN ?_ _) | (with_reducible refine SrcOk.drew ?_) | (with_reducible refine SrcOk.later _ ?_) | (with_reducible refine SrcOk.after _ ?_ ?_) | (dsimp only; omega) | omega | ((try simp only [World.size_alloc, World.size_setCell, World.size_drew]); omega))))
              have e : viewV ab cb ⟨s, B⟩ = [.string s, .slice ab i cb] := by show [_, Value.slice ab B.length cb] = _; rw [hBl]
              refine GVw.snoc (c := d) (ai := ab) (ci := cb) (w := z4.w.alloc (.cells #[.string s, .slice ab i cb] 64)) hGl.out hGo.out (hrows4.out.bel bb) hvl hgo.out x9.btw (by rw [e]; exact hown9.out) hgg0 hat9.out hSm.out ?_ hxa.out
              dsimp only
              rw [hBl]
              exact own_mono (own_bel ho4.out bb) (by omega)
            · by_cases hm0 : 0 < m
              · have hm1 : (0 : Int) < (m : Int) := by omega
                have hHE := Lib.hid (World.ownsRow_lit (base := z3.w.heap.size) (e := 9) (size := 1) z3.w #[] 0 (by omega) (by unfold maxLen; omega) rfl)
                have hor3 := Lib.hid (Row.of_own ho3.out)
                obtain ⟨b0, rfl, hb0, hb0', hc1, hf1⟩ := hvo.out.at_ (j := 1) (by omega)
                obtain ⟨vv, hvv⟩ : ∃ vv, vs[1]? = some vv := ⟨_, List.getElem?_eq_getElem (by omega)⟩
                rw [hvv] at hc1
                clear hvv
                go_wp2_with (first | (at_builtin; (refine wpList_append_later _ rfl _ _ _ rfl 9 ss _ 1 16 Tryz.underlying46 Jss.out.1 Jss.out.2.1 Jss.out.2.2.1 Jss.out.2.2.2 rfl (by decide) (z3.w) ?qa8 _ _ _ ([]) rfl ?qa9 _ _ _ (strCells B) rfl ?qa10 ?qa11 ?qa12 ?qa13 ?qa14 ?_); (case qa8 => (exact bb)); (case qa9 => exact hHE.out); (case qa10 => (first | rfl | (simp [boolCells]; done) | (simp [intCells]; done) | (simp; done) | (first | omega | (simp only [List.length_append, List.length_cons, List.length_nil]; omega)))); (case qa11 => exact hor3.out.bel bb); (case qa12 => exact one_str _); (case qa13 => (unfold maxLen; (first | omega | (simp only [List.length_append, List.length_cons, List.length_nil]; omega)))); (case qa14 => (first | omega | (simp only [List.length_append, List.length_cons, List.length_nil]; omega))); intro a4 c4 x4 hown4; simp only [Nat.zero_add, List.nil_append] at hown4; have hO4 := Lib.hid (Owns.of hown4); have hs4 := x4.bel.size) | (at_builtin; (refine wpList_append_later _ rfl _ _ _ rfl 9 ss _ 1 16 Tryz.underlying46 Jss.out.1 Jss.out.2.1 Jss.out.2.2.1 Jss.out.2.2.2 rfl (by decide) (z3.w) ?qa15 _ _ _ (strCells B) rfl ?qa16 _ _ _ ([.string ⟨#[97, 108, 98, 97]⟩]) rfl ?qa17 ?qa18 ?qa19 ?qa20 ?qa21 ?_); (case qa15 => (exact bb)); (case qa16 => exact own_bel hO4.out.own bb); (case qa17 => (first | rfl | (simp [boolCells]; done) | (simp [intCells]; done) | (simp; done) | (first | omega | (simp only [List.length_append, List.length_cons, List.length_nil]; omega)))); (case qa18 => exact Row.made _ _ _); (case qa19 => exact one_tx _); (case qa20 => (unfold maxLen; (first | omega | (simp only [List.length_append, List.length_cons, List.length_nil]; omega)))); (case qa21 => (first | omega | (simp only [List.length_append, List.length_cons, List.length_nil]; omega))); intro a6 c6 x6 hown6; replace hown6 := Lib.hid hown6; have hs6 := x6.bel.size))
                refine bodyPost_ret (by simp [results, Tryz.results84, go_sem, ↓IntWalk.iteOmega, *]; try rfl) rfl ?_
                have hO1 : B.length + 1 = i + 1 := by omega
                have e : (Value.slice a6 (i + 1) c6) = .slice a6 (B ++ [(⟨#[97, 108, 98, 97]⟩ : ByteArray)]).length c6 := by rw [List.length_append, hBl]; rfl
                rw [e]
                refine FIN.out _ _ _ _ _ (by omega) (GVw.setOwn (w := x6.w) (hGG.out.bel bb) hm0 (by rw [List.length_append, hBl]; show i + 1 ≤ 64; omega) (fun s' hs' => ?_) ?_ (fun p hp => ?_)) (btw_own ?_ (by dsimp only; omega) _) (by (repeat (first | (with_reducible exact H3.out) | (with_reducible refine SrcOk.alloc ?_ _) | (with_reducible refine SrcOk.set ?_ ?_ _) | (with_reducible refine SrcOk.drewN ?_ _) | (with_reducible refine SrcOk.drew ?_) | (with_reducible refine SrcOk.later _ ?_) | (with_reducible refine SrcOk.after _ ?_ ?_) | (dsimp only; omega) | omega | ((try simp only [World.size_alloc, World.size_setCell, World.size_drew]); omega))))
                · rcases List.mem_append.1 hs' with h | h
                  · exact hB64.out s' h
                  · rw [List.mem_singleton.1 h]; decide
                · rw [List.length_append, hBl, show strCells (B ++ [(⟨#[97, 108, 98, 97]⟩ : ByteArray)]) = strCells B ++ [.string ⟨#[97, 108, 98, 97]⟩] by simp [strCells]]
                  exact own_mono hown6.out (by omega)
                · have := (hown6.out.lt p.block (by rw [hp]; rfl)).1
                  omega
                · exact hb3.out.later bb
              · obtain rfl : m = 0 := by omega
                go_wp2_with fail
                refine bodyPost_ret (by simp [results, Tryz.results84, go_sem, ↓IntWalk.iteOmega, *]; try rfl) rfl ?_
                exact FIN.out _ _ _ _ _ (by omega) hGG.out hb3.out H3.out
            · by_cases hmi : 0 < m ∧ 0 < i
              · obtain ⟨hm0, hi0⟩ := hmi
                have hm1 : (0 : Int) < (m : Int) := by omega
                have hi1 : (0 : Int) < (i : Int) := by omega
                have hT0 : 0 < T.length := by have := hGl.out; omega
                obtain ⟨ai, ci, e1, e2, e3, e6⟩ := hrows.out 0 hT0
                rw [hTi.out _ (List.getElem_mem hT0), Nat.zero_mul, Nat.zero_add] at e2
                rw [hTi.out _ (List.getElem_mem hT0)] at e3
                obtain ⟨b0, rfl, hb0, hb0', hc1, hf1⟩ := hvo.out.at_ (j := 1) (by omega)
                rw [e2] at hc1
                obtain ⟨g5, rfl, hg5, hg5', hc5, hf5⟩ := (Owns.of e3).at_ (j := 0) (by omega)
                have hne : g5 ≠ b0 := e6 _ _ rfl rfl
                have hl0 : 0 < (strCells T[0].own).length := by have h := e3.1; omega
                obtain ⟨vv, hvv⟩ : ∃ vv, (strCells T[0].own)[0]? = some vv := ⟨_, List.getElem?_eq_getElem hl0⟩
                rw [hvv] at hc5
                clear e1 e2 e3 e6 hvv
                go_wp2_with fail
                refine bodyPost_ret (by simp [results, Tryz.results84, go_sem, ↓IntWalk.iteOmega, *]; try rfl) rfl ?_
                obtain ⟨T', -, hG'⟩ := GVw.storeIn hGG.out (g := g5) (k := 0) hne ⟨#[65, 108, 98, 97]⟩ (by decide)
                exact FIN.out _ _ _ _ _ (by omega) hG' (btw_own hb3.out (by dsimp only; omega) _) (by (repeat (first | (with_reducible exact H3.out) | (with_reducible refine SrcOk.alloc ?_ _) | (with_reducible refine SrcOk.set ?_ ?_ _) | (with_reducible refine SrcOk.drewN ?_ _) | (with_reducible refine SrcOk.drew ?_) | (with_reducible refine SrcOk.later _ ?_) | (with_reducible refine SrcOk.after _ ?_ ?_) | (dsimp only; omega) | omega | ((try simp only [World.size_alloc, World.size_setCell, World.size_drew]); omega))))
              · have hcond : (¬ (0 : Int) < (m : Int)) ∨ ((0 : Int) < (m : Int) ∧ ¬ (0 : Int) < (i : Int)) := by omega
                rcases hcond with hc | ⟨hc, hc2⟩
                all_goals
                  go_wp2_with fail
                  refine bodyPost_ret (by simp [results, Tryz.results84, go_sem, ↓IntWalk.iteOmega, *]; try rfl) rfl ?_
                  exact FIN.out _ _ _ _ _ (by omega) hGG.out hb3.out H3.out
            · have e0 : (x == 0) = false := by rw [beq_eq_false_iff_ne]; omega
              have e1 : (x == 1) = false := by rw [beq_eq_false_iff_ne]; omega
              have e2 : (x == 2) = false := by rw [beq_eq_false_iff_ne]; omega
              go_wp2_with fail
              refine bodyPost_ret (by simp [results, Tryz.results84, go_sem, ↓IntWalk.iteOmega, *]; try rfl) rfl ?_
              exact FIN.out _ _ _ _ _ (by omega) hGG.out hb3.out H3.out
end Go.Proofs.YtklcaphkfdlipaaGreatDoor

import Derived.Test.YtfjlilpebhiogaaGreatDoorMTextW
/- MaskText, the program's way; both public functions. -/
set_option linter.unusedSimpArgs false
set_option linter.unusedVariables false
namespace Go.Proofs.YtfjlilpebhiogaaGreatDoor
open Go.RowKit
def wordsM (x y : Int) (W H : Nat) (l : List Bool) (k : Nat) : List ByteArray := ptT x y :: rowsT W H l k
theorem wordsM_len (x y : Int) (W H : Nat) (l : List Bool) (k : Nat) : (wordsM x y W H l k).length = k + 1 := by simp [wordsM, rowsT]
theorem wordsM_succ (x y : Int) (W H : Nat) (l : List Bool) (k : Nat) : strCells (wordsM x y W H l (k + 1)) = strCells (wordsM x y W H l k) ++ [.string (rowT (rowL W l (H - 1 - k)))] := by
  unfold wordsM
  rw [rowsT_succ, ← List.cons_append, strCells_snoc]
theorem joinMask_any (x y : Int) (W H : Nat) (l : List Bool) (g c : Nat) (w : World) (hx : -1000 ≤ x ∧ x ≤ 1000) (hy : -1000 ≤ y ∧ y ≤ 1000) (hW : W ≤ 24) (hH : H ≤ 24) (hr : Row w (some ⟨g, 0, none⟩) (strCells (wordsM x y W H l H))) (hc : H + 1 ≤ c) :
    Calls Tryz.prog 44 #[.slice (some ⟨g, 0, none⟩) (H + 1) c, .string ⟨#[32]⟩] w (Ret w (.string (maskT x y W H l))) := by
  have hlen := wordsM_len x y W H l H
  have e : Lib.join ((wordsM x y W H l H).map (·.data.toList)) (⟨#[32]⟩ : ByteArray).data.toList = (maskT x y W H l).data.toList := congrArg (fun (x : ByteArray) => x.data.toList) (join_mask x y W H l)
  have hs := maskTo_size x y W H l hx hy H hW
  have h := joinRow_any (wordsM x y W H l H) ⟨#[32]⟩ g 0 c w (by
      obtain ⟨b', o', e', hc'⟩ := hr 0 _ (strCells_get (by omega))
      cases e'
      exact World.block_lt_of_cell? _ _ hc') (fun j s hj => by
      have hj' := (List.getElem?_eq_some_iff.1 hj)
      obtain ⟨h1, h2⟩ := hj'
      obtain ⟨b', o', e', hc'⟩ := hr j _ (strCells_get h1)
      cases e'
      rw [h2] at hc'
      exact hc') (by omega) (by omega) (by
      rw [e, Array.length_toList]
      have : (maskT x y W H l).data.size = (maskT x y W H l).size := rfl
      have h3 : maskT x y W H l = maskTo x y W H l H := rfl
      rw [this, h3]
      omega)
  rw [hlen, show (⟨(Lib.join ((wordsM x y W H l H).map (·.data.toList)) (⟨#[32]⟩ : ByteArray).data.toList).toArray⟩ : ByteArray) = maskT x y W H l from join_mask x y W H l] at h
  exact h
set_option maxRecDepth 4000 in
set_option maxHeartbeats 8000000 in
theorem maskText_ok (x y : Int) (W H : Nat) (l : List Bool) (b o n c : Nat) (w : World) (hn : l.length = n) (hM : isMaskB x y W H n = true) (hc : n ≤ c) (hr : Row w (some ⟨b, o, none⟩) (boolCells l)) (hT : Tab w) :
    Calls Tryz.prog 14 #[.agg #[.int .i64 x, .int .i64 y, .int .i64 W, .int .i64 H, .slice (some ⟨b, o, none⟩) n c]] w (Ret w (.tuple #[.string (maskT x y W H l), .int .i64 0])) := by
  obtain ⟨d1, d2, d3, d4, d5, d6⟩ := mask_dims hM
  obtain ⟨x1, x2, y1, y2⟩ := isPointB_iff.1 d6
  have hn5 : n ≤ 576 := by rw [d5]; exact Nat.mul_le_mul d4 d2
  have CI := Lib.hid (fun w => isMask_b x y W H (some ⟨b, o, none⟩) n c w hM)
  have CP := Lib.hid (fun w' (hb : Below w.heap.size w w') => pointText_any x y w' ⟨x1, x2⟩ ⟨y1, y2⟩ (hT.bel hb))
  have CR := Lib.hid (fun k (hk : k < H) w' (hb : Below w.heap.size w w') => show Calls Tryz.prog 43 #[.agg #[.int .i64 x, .int .i64 y, .int .i64 W, .int .i64 H, .slice (some ⟨b, o, none⟩) n c], .int .i64 ((H : Int) - 1 - k)] w' (Ret w' (.string (rowT (rowL W l (H - 1 - k))))) by
    have h := rowText_any x y W H (H - 1 - k) l b o n c w' hn d1 d2 (by omega) (by
      rw [d5]
      have := Nat.mul_le_mul_right W (show (H - 1 - k) + 1 ≤ H by omega)
      rw [Nat.succ_mul] at this
      exact this) hn5 hc (hr.bel hb)
    rw [show (((H - 1 - k : Nat) : Int)) = (H : Int) - 1 - k by omega] at h
    exact h)
  have CJ := Lib.hid (fun g c' w' hr hc => joinMask_any x y W H l g c' w' ⟨x1, x2⟩ ⟨y1, y2⟩ d2 d4 hr hc)
  have hw0 : wordsM x y W H l 0 = [ptT x y] := rfl
  have hws := fun k => wordsM_succ x y W H l k
  have hwl := fun k => wordsM_len x y W H l k
  obtain ⟨V, hV⟩ : ∃ V : Nat → List ByteArray, wordsM x y W H l = V := ⟨_, rfl⟩
  rw [hV] at CJ hw0 hws hwl
  obtain ⟨P0, hP0⟩ : ∃ P, ptT x y = P := ⟨_, rfl⟩
  rw [hP0] at CP hw0
  obtain ⟨T, hTd⟩ : ∃ T, maskT x y W H l = T := ⟨_, rfl⟩
  rw [hTd] at CJ ⊢
  replace hws := Lib.hid hws
  replace hwl := Lib.hid hwl
  replace hw0 := Lib.hid hw0
  clear hTd hP0 hV hr hT hM d5 d6 hn
  obtain ⟨ii, j1, j2, j3, j4⟩ := info_str'
  have Jii := Lib.hid (And.intro j1 (And.intro j2 (And.intro j3 j4)))
  clear j1 j2 j3 j4
  go_enter Tryz.func14, Tryz.ntmps14
  go_wp2_with fail
  with_reducible refine (CI.out _).mono ?_
  rintro e w' ⟨rfl, y1, rfl⟩
  have hsy1 := y1.bel.size
  (try simp only [World.size_alloc, World.size_setCell, World.size_drew] at hsy1)
  go_wp2_with fail
  with_reducible refine (CP.out _ (by (repeat (first | (with_reducible exact Below.refl _ _) | (with_reducible assumption) | (with_reducible refine Later.out _ ?_) | (with_reducible refine bel_alloc ?_ _) | (with_reducible refine bel_drew ?_) | (with_reducible refine bel_drewN ?_ _) | (with_reducible refine bel_set ?_ ?_ _) | (with_reducible refine After.out _ ?_ ?_) | (dsimp only; omega) | omega | (simp only [World.size_alloc, World.size_setCell, World.size_drew]; omega))))).mono ?_
  rintro e w' ⟨rfl, y2, rfl⟩
  have hsy2 := y2.bel.size
  (try simp only [World.size_alloc, World.size_setCell, World.size_drew] at hsy2)
  have u1 : w.heap.size < y1.w.heap.size := by omega
  have u2 : w.heap.size < y2.w.heap.size := by omega
  go_wp2_with fail
  go_loopw [4, 5] (fun t i wr => ∃ (k : Nat) (a : Option Addr) (c4 : Nat), k ≤ H ∧ i = .int .i64 ((H : Int) - 1 - k) ∧ t = .slice a (k + 1) c4 ∧ wr.ownsRow y2.w.heap.size 9 1 (.slice a (k + 1) c4) (k + 1) (strCells (V k)) ∧ ∃ z : Later y2.w, wr = z.w) (fun _ i _ => (intOf i + 1).toNat)
  case atStart =>
    refine ⟨0, _, _, Nat.zero_le _, by simp, rfl, ?_, ⟨_, bel_alloc (Below.refl _ _) _⟩, rfl⟩
    have h := World.ownsRow_lit (base := y2.w.heap.size) (e := 9) (size := 1) y2.w #[.string P0] 1 (Nat.le_refl _) (by unfold maxLen; omega) (by simp)
    rw [hw0.out]
    exact h
  case round =>
    obtain ⟨k, a, c4, hk, rfl, rfl, hown, z, rfl⟩ := hrel
    have hzz := z.bel.size
    have u3 : w.heap.size < z.w.heap.size := by omega
    replace hown := Lib.hid hown
    by_cases hlt : k < H
    · have hi1 : 0 ≤ (H : Int) - 1 - k := by omega
      have CR2 := Lib.hid (CR.out k hlt)
      have hst := Lib.hid (hws.out k)
      obtain ⟨R, hR⟩ : ∃ R, rowT (rowL W l (H - 1 - k)) = R := ⟨_, rfl⟩
      rw [hR] at CR2 hst
      clear hR
      go_wp2_with fail
      with_reducible refine (CR2.out _ (by (repeat (first | (with_reducible exact Below.refl _ _) | (with_reducible assumption) | (with_reducible refine Later.out _ ?_) | (with_reducible refine bel_alloc ?_ _) | (with_reducible refine bel_drew ?_) | (with_reducible refine bel_drewN ?_ _) | (with_reducible refine bel_set ?_ ?_ _) | (with_reducible refine After.out _ ?_ ?_) | (dsimp only; omega) | omega | (simp only [World.size_alloc, World.size_setCell, World.size_drew]; omega))))).mono ?_
      rintro e w' ⟨rfl, y3, rfl⟩
      have hsy3 := y3.bel.size
      (try simp only [World.size_alloc, World.size_setCell, World.size_drew] at hsy3)
      have u4 : w.heap.size < y3.w.heap.size := by omega
      have hown2 := Lib.hid (own_bel hown.out y3.bel)
      go_wp2_with (at_builtin; (refine wpList_append_later _ rfl _ _ _ rfl 9 ii _ 1 16 Tryz.underlying52 Jii.out.1 Jii.out.2.1 Jii.out.2.2.1 Jii.out.2.2.2 rfl (by decide) (y2.w) ?qa1 _ _ _ (strCells (V k)) rfl ?qa2 _ _ _ ([.string R]) rfl ?qa3 ?qa4 ?qa5 ?qa6 ?qa7 ?_); (case qa1 => (repeat (first | (with_reducible exact Below.refl _ _) | (with_reducible assumption) | (with_reducible refine Later.out _ ?_) | (with_reducible refine bel_alloc ?_ _) | (with_reducible refine bel_drew ?_) | (with_reducible refine bel_drewN ?_ _) | (with_reducible refine bel_set ?_ ?_ _) | (with_reducible refine After.out _ ?_ ?_) | (dsimp only; omega) | omega | (simp only [World.size_alloc, World.size_setCell, World.size_drew]; omega)))); (case qa2 => exact own_bel hown2.out (by (repeat (first | (with_reducible exact Below.refl _ _) | (with_reducible assumption) | (with_reducible refine Later.out _ ?_) | (with_reducible refine bel_alloc ?_ _) | (with_reducible refine bel_drew ?_) | (with_reducible refine bel_drewN ?_ _) | (with_reducible refine bel_set ?_ ?_ _) | (with_reducible refine After.out _ ?_ ?_) | (dsimp only; omega) | omega | (simp only [World.size_alloc, World.size_setCell, World.size_drew]; omega))))); (case qa3 => (first | rfl | (simp [boolCells]; done) | (simp [intCells]; done) | (simp; done) | (first | omega | (simp only [List.length_append, List.length_cons, List.length_nil]; omega)))); (case qa4 => exact Row.made _ _ _); (case qa5 => (intro u hu; simp at hu; subst hu; rfl)); (case qa6 => (unfold maxLen; (first | omega | (simp only [List.length_append, List.length_cons, List.length_nil]; omega)))); (case qa7 => (first | omega | (simp only [List.length_append, List.length_cons, List.length_nil]; omega))); intro a' c' x hown')
      replace hown' := Lib.hid hown'
      go_roundw
      case rel => exact ⟨k + 1, a', c', by omega, by first | go_num | (congr 1; omega), rfl, by rw [hst.out]; exact hown'.out, x, rfl⟩
      case measure => first | (simp [intOf]; done) | (simp [intOf]; omega) | omega
    · obtain rfl : k = H := by omega
      have hi1 : ¬ 0 ≤ (k : Int) - 1 - k := by omega
      have hO := Owns.of hown.out
      obtain ⟨g, rfl, g1, g2, -, -⟩ := hO.at_ (j := 0) (by omega)
      have hcap : k + 1 ≤ c4 := by
        rcases hown.out.2 with ⟨h0, _⟩ | ⟨g', cap', cur, hv, hg, hb, h1, h2, h3, h4⟩
        · cases h0
        · cases hv; exact h1
      have hrow := Lib.hid hO.row
      clear hO
      go_wp2_with fail
      with_reducible refine (CJ.out _ _ _ hrow.out hcap).mono ?_
      rintro e w' ⟨rfl, y5, rfl⟩
      have hsy5 := y5.bel.size
      (try simp only [World.size_alloc, World.size_setCell, World.size_drew] at hsy5)
      go_wp2_with fail
      go_ret2
      exact .mk rfl (by (repeat (first | (with_reducible exact Below.refl _ _) | (with_reducible assumption) | (with_reducible refine Later.out _ ?_) | (with_reducible refine bel_alloc ?_ _) | (with_reducible refine bel_drew ?_) | (with_reducible refine bel_drewN ?_ _) | (with_reducible refine bel_set ?_ ?_ _) | (with_reducible refine After.out _ ?_ ?_) | (dsimp only; omega) | omega | (simp only [World.size_alloc, World.size_setCell, World.size_drew]; omega))))
/-- The text and the code. -/
noncomputable def mtR (x y W H : Int) (l : List Bool) : ByteArray := if isMaskB x y W H l.length then maskT x y W.toNat H.toNat l else ByteArray.empty
noncomputable def mtK (x y W H : Int) (n : Nat) : Int := if isMaskB x y W H n then 0 else 1
theorem mask_nat {x y W H : Int} {n : Nat} (h : isMaskB x y W H n = true) : ∃ Wn Hn : Nat, W = Wn ∧ H = Hn ∧ 0 < n := by
  unfold isMaskB at h
  simp only [Bool.and_eq_true, beq_iff_eq, inB_iff] at h
  obtain ⟨⟨⟨⟨h1, h2⟩, h3⟩, h4⟩, h5⟩ := h
  have := Int.mul_pos (show 0 < W by omega) (show 0 < H by omega)
  exact ⟨W.toNat, H.toNat, by omega, by omega, by omega⟩
set_option maxHeartbeats 2000000 in
theorem mt_impl (x y W H : Int) (l : List Bool) (a : Option Addr) (n c : Nat) (w : World) (hn : l.length = n) (hc : n ≤ c) (hr : Row w a (boolCells l)) (hT : Tab w) :
    Calls Tryz.prog 14 #[.agg #[.int .i64 x, .int .i64 y, .int .i64 W, .int .i64 H, .slice a n c]] w (Ret w (.tuple #[.string (mtR x y W H l), .int .i64 (mtK x y W H n)])) := by
  cases h : isMaskB x y W H n
  · rw [show mtR x y W H l = ByteArray.empty by simp [mtR, hn, h], show mtK x y W H n = 1 by simp [mtK, h]]
    have C := Lib.hid (fun w => isMask_b x y W H a n c w h)
    clear h hr hT hn
    go_enter Tryz.func14, Tryz.ntmps14
    go_wp2_with fail
    with_reducible refine (C.out _).mono ?_
    rintro e w' ⟨rfl, y1, rfl⟩
    have hsy1 := y1.bel.size
    (try simp only [World.size_alloc, World.size_setCell, World.size_drew] at hsy1)
    go_wp2_with fail
    go_ret2
    exact .mk rfl (by (repeat (first | (with_reducible exact Below.refl _ _) | (with_reducible assumption) | (with_reducible refine Later.out _ ?_) | (with_reducible refine bel_alloc ?_ _) | (with_reducible refine bel_drew ?_) | (with_reducible refine bel_drewN ?_ _) | (with_reducible refine bel_set ?_ ?_ _) | (with_reducible refine After.out _ ?_ ?_) | (dsimp only; omega) | omega | (simp only [World.size_alloc, World.size_setCell, World.size_drew]; omega))))
  · obtain ⟨Wn, Hn, rfl, rfl, h0⟩ := mask_nat h
    rw [show mtR x y Wn Hn l = maskT x y Wn Hn l by simp [mtR, hn, h], show mtK x y Wn Hn n = 0 by simp [mtK, h]]
    obtain ⟨b, o, rfl, -⟩ := hr 0 _ (boolCells_get (by omega))
    exact maskText_ok x y Wn Hn l b o n c w hn h hc hr hT
set_option maxHeartbeats 2000000 in
theorem mt_spec (x y W H : Int) (l : List Bool) (a : Option Addr) (n c : Nat) (w : World) (hn : l.length = n) (hr : Row w a (boolCells l)) :
    Calls Tryz.prog 15 #[.agg #[.int .i64 x, .int .i64 y, .int .i64 W, .int .i64 H, .slice a n c]] w (Ret w (.tuple #[.string (mtR x y W H l), .int .i64 (mtK x y W H n)])) := by
  cases h : isMaskB x y W H n
  · rw [show mtR x y W H l = ByteArray.empty by simp [mtR, hn, h], show mtK x y W H n = 1 by simp [mtK, h]]
    have C := Lib.hid (fun w => sIsMask_b x y W H a n c w h)
    clear h hr hn
    go_enter Tryz.func15, Tryz.ntmps15
    go_wp2_with fail
    with_reducible refine (C.out _).mono ?_
    rintro e w' ⟨rfl, y1, rfl⟩
    have hsy1 := y1.bel.size
    (try simp only [World.size_alloc, World.size_setCell, World.size_drew] at hsy1)
    go_wp2_with fail
    go_ret2
    exact .mk rfl (by (repeat (first | (with_reducible exact Below.refl _ _) | (with_reducible assumption) | (with_reducible refine Later.out _ ?_) | (with_reducible refine bel_alloc ?_ _) | (with_reducible refine bel_drew ?_) | (with_reducible refine bel_drewN ?_ _) | (with_reducible refine bel_set ?_ ?_ _) | (with_reducible refine After.out _ ?_ ?_) | (dsimp only; omega) | omega | (simp only [World.size_alloc, World.size_setCell, World.size_drew]; omega))))
  · obtain ⟨Wn, Hn, rfl, rfl, h0⟩ := mask_nat h
    rw [show mtR x y Wn Hn l = maskT x y Wn Hn l by simp [mtR, hn, h], show mtK x y Wn Hn n = 0 by simp [mtK, h]]
    obtain ⟨b, o, rfl, -⟩ := hr 0 _ (boolCells_get (by omega))
    have C := Lib.hid (fun w => sIsMask_b x y Wn Hn (some ⟨b, o, none⟩) n c w h)
    have D := Lib.hid (fun w hr => sMaskText_any x y Wn Hn l b o n c w hn h hr)
    replace hr := Lib.hid hr
    clear h hn
    obtain ⟨T, hTd⟩ : ∃ T, maskT x y Wn Hn l = T := ⟨_, rfl⟩
    rw [hTd] at D ⊢
    clear hTd
    go_enter Tryz.func15, Tryz.ntmps15
    go_wp2_with fail
    with_reducible refine (C.out _).mono ?_
    rintro e w' ⟨rfl, y1, rfl⟩
    have hsy1 := y1.bel.size
    (try simp only [World.size_alloc, World.size_setCell, World.size_drew] at hsy1)
    go_wp2_with fail
    with_reducible refine (D.out _ (hr.out.bel (by (repeat (first | (with_reducible exact Below.refl _ _) | (with_reducible assumption) | (with_reducible refine Later.out _ ?_) | (with_reducible refine bel_alloc ?_ _) | (with_reducible refine bel_drew ?_) | (with_reducible refine bel_drewN ?_ _) | (with_reducible refine bel_set ?_ ?_ _) | (with_reducible refine After.out _ ?_ ?_) | (dsimp only; omega) | omega | (simp only [World.size_alloc, World.size_setCell, World.size_drew]; omega)))))).mono ?_
    rintro e w' ⟨rfl, y2, rfl⟩
    have hsy2 := y2.bel.size
    (try simp only [World.size_alloc, World.size_setCell, World.size_drew] at hsy2)
    go_wp2_with fail
    go_ret2
    exact .mk rfl (by (repeat (first | (with_reducible exact Below.refl _ _) | (with_reducible assumption) | (with_reducible refine Later.out _ ?_) | (with_reducible refine bel_alloc ?_ _) | (with_reducible refine bel_drew ?_) | (with_reducible refine bel_drewN ?_ _) | (with_reducible refine bel_set ?_ ?_ _) | (with_reducible refine After.out _ ?_ ?_) | (dsimp only; omega) | omega | (simp only [World.size_alloc, World.size_setCell, World.size_drew]; omega))))
theorem mtR_size (x y W H : Int) (l : List Bool) : (mtR x y W H l).size ≤ 2000 := by
  unfold mtR
  split
  · rename_i h
    obtain ⟨Wn, Hn, rfl, rfl, -⟩ := mask_nat h
    obtain ⟨d1, d2, d3, d4, d5, d6⟩ := mask_dims h
    obtain ⟨x1, x2, y1, y2⟩ := isPointB_iff.1 d6
    have := maskTo_size x y Wn Hn l ⟨x1, x2⟩ ⟨y1, y2⟩ Hn d2
    show (maskTo x y Wn Hn l Hn).size ≤ 2000
    omega
  · show 0 ≤ 2000; omega
end Go.Proofs.YtfjlilpebhiogaaGreatDoor

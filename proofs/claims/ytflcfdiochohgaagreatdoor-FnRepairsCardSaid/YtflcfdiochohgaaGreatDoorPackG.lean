import Derived.Test.YtflcfdiochohgaaGreatDoorPackGa
import Derived.Test.YtflcfdiochohgaaGreatDoorPackC
/- Several of my texts, one behind the other: Shrink, SrcC. -/
/- ShrinkRepair and CoreWithin: both sides; slices.Clone of numbers. -/
set_option linter.unusedSimpArgs false
set_option linter.unusedVariables false
namespace Go.Proofs.YtflcfdiochohgaaGreatDoor
open Go.RowKit
set_option maxRecDepth 4000 in
set_option maxHeartbeats 400000 in
theorem cloneInt_any (l : List Int) (a : Option Addr) (n c : Nat) (w : World) (hn : l.length = n) (hm : n ≤ 1048576) (hs : Shp a n c) (hr : Row w a (intCells l)) :
    Calls Tryz.prog 113 #[.slice a n c] w (RetOwn w 2 1 n (intCells l) id) := by
  subst hn
  obtain ⟨ii, j1, j2, j3, j4⟩ := info_i64'
  have Jii := Lib.hid (And.intro j1 (And.intro j2 (And.intro j3 j4)))
  have HR := Lib.hid hr
  have hcap := hs.cap
  have hz := hs.nil
  have hp := hs.spot
  clear j1 j2 j3 j4 hs
  cases a with
  | none =>
    obtain rfl := hz rfl
    have h0 : l.length = 0 := by omega
    have hl : l = [] := List.length_eq_zero_iff.1 h0
    subst hl
    have heq := fun w => Lib.run_eql_slice_nil (P := Tryz.prog) w 35 2 none 0 0 0 0 Tryz.underlying35
    clear hz hp hr
    go_enter Tryz.func113, Tryz.ntmps113
    go_wp2_with fail
    go_ret
    exact RetOwn.mk (.slice none 0 0) rfl (World.ownsRow_nil _ _ _ _) (by (repeat (first | (with_reducible exact Below.refl _ _) | (with_reducible assumption) | (with_reducible refine Later.out _ ?_) | (with_reducible refine bel_alloc ?_ _) | (with_reducible refine bel_drew ?_) | (with_reducible refine bel_drewN ?_ _) | (with_reducible refine bel_set ?_ ?_ _) | (with_reducible refine After.out _ ?_ ?_) | (dsimp only; omega) | omega | (simp only [World.size_alloc, World.size_setCell, World.size_drew]; omega))))
  | some p =>
    obtain ⟨b, o, s⟩ := p
    obtain rfl : s = none := hp _ rfl
    have heq := fun w => Lib.run_eql_slice_nil (P := Tryz.prog) w 35 2 (some ⟨b, o, none⟩) l.length c 0 0 Tryz.underlying35
    clear hz hp hr
    go_enter Tryz.func113, Tryz.ntmps113
    go_wp2_with (at_builtin; (refine wpList_append_later _ rfl _ _ _ rfl 2 ii _ 1 8 Tryz.underlying35 Jii.out.1 Jii.out.2.1 Jii.out.2.2.1 Jii.out.2.2.2 rfl (by decide) (w) ?qa1 _ _ _ ([]) rfl ?qa2 _ _ _ (intCells l) rfl ?qa3 ?qa4 ?qa5 ?qa6 ?qa7 ?_); (case qa1 => (repeat (first | (with_reducible exact Below.refl _ _) | (with_reducible assumption) | (with_reducible refine Later.out _ ?_) | (with_reducible refine bel_alloc ?_ _) | (with_reducible refine bel_drew ?_) | (with_reducible refine bel_drewN ?_ _) | (with_reducible refine bel_set ?_ ?_ _) | (with_reducible refine After.out _ ?_ ?_) | (dsimp only; omega) | omega | (simp only [World.size_alloc, World.size_setCell, World.size_drew]; omega)))); (case qa2 => exact World.ownsRow_lit w #[] 0 (Nat.le_refl _) (by unfold maxLen; omega) rfl); (case qa3 => (first | rfl | (simp [boolCells]; done) | (simp [intCells]; done) | (simp; done) | (first | omega | (simp only [List.length_append, List.length_cons, List.length_nil]; omega)))); (case qa4 => exact HR.out.bel (by (repeat (first | (with_reducible exact Below.refl _ _) | (with_reducible assumption) | (with_reducible refine Later.out _ ?_) | (with_reducible refine bel_alloc ?_ _) | (with_reducible refine bel_drew ?_) | (with_reducible refine bel_drewN ?_ _) | (with_reducible refine bel_set ?_ ?_ _) | (with_reducible refine After.out _ ?_ ?_) | (dsimp only; omega) | omega | (simp only [World.size_alloc, World.size_setCell, World.size_drew]; omega))))); (case qa5 => exact one_ints l); (case qa6 => (unfold maxLen; (first | omega | (simp only [List.length_append, List.length_cons, List.length_nil]; omega)))); (case qa7 => (first | omega | (simp only [List.length_append, List.length_cons, List.length_nil]; omega))); intro a' c' x hown)
    simp only [Nat.zero_add, List.nil_append] at hown
    have HO := Lib.hid hown
    clear hown
    go_ret
    exact RetOwn.mk _ rfl HO.out x.bel
noncomputable def shrR (L : List Clm) (l : List Int) : List Int := if codeZ L l = 0 then (if repG L l then shrinkS (repG L) l 0 else []) else []
noncomputable def shrK (L : List Clm) (l : List Int) : Int := if codeZ L l = 0 then (if repG L l then 0 else 5) else codeZ L l
theorem shrR_len (L : List Clm) (l : List Int) {n : Nat} (hn : L.length = n) (hm : n ≤ 1048576) : (shrR L l).length ≤ 1048576 := by
  unfold shrR
  split
  · rename_i h
    have h12 := len_of_claims (code_claims h)
    have hll := rises_len (code_rises h)
    split
    · have := shrinkL_le (repG L) (l.length - 0) l 0
      unfold shrinkS
      omega
    · simp
  · simp
section
variable (L : List Clm) (l : List Int) (a : Option Addr) (n c : Nat) (a' : Option Addr) (n' c' : Nat) (w : World) (hn : L.length = n) (hm : n ≤ 1048576) (hn' : l.length = n') (hm' : n' ≤ 1048576) (hr : Row w a (clmsCells L)) (hr' : Row w a' (intCells l)) (ok : ∀ c ∈ L, ClmOk c)
include hn hn' hm hm' hr hr' ok
set_option maxRecDepth 8000 in
set_option maxHeartbeats 4000000 in
theorem shr_impl (hs : Shp a' n' c') (hx : Max w) : Calls Tryz.prog 38 #[.slice a n c, .slice a' n' c'] w (RetOwn w 2 1 (shrR L l).length (intCells (shrR L l)) fun v => .tuple #[v, .int .i64 (shrK L l)]) := by
  have C1 := chosenCode_any L l a a' n c n' c' w hn hn' hm hm' hr hr' ok hx
  by_cases h : codeZ L l = 0
  · have hcl := code_claims h
    have hri := code_rises h
    have hwi := within_of_rises hri
    have h12 := len_of_claims hcl
    have hll := rises_len hri
    subst hn hn'
    rw [h] at C1
    have CA := Lib.hid (fun (T : List Int) (b : Bool) (hb : repG L T = b) (hl : T.length ≤ 1000) a' c' (w : World) hr hr' => isRepair_b L T a a' L.length c T.length c' w rfl rfl hm (by omega) hr hr' hb)
    have CL := Lib.hid (fun (T : List Int) (i : Nat) (hi : i < T.length) (hl : T.length ≤ 1000) a' c' (w : World) hc hr => lacking_any T i a' T.length c' w rfl hi hl hc hr)
    have CC := Lib.hid (fun (w : World) hr => cloneInt_any l a' l.length c' w rfl hm' hs hr)
    replace C1 := Lib.hid C1
    replace hr := Lib.hid hr
    replace hr' := Lib.hid hr'
    replace hwi := Lib.hid hwi
    have hl12 : l.length ≤ 12 := by omega
    clear ok hcl hri hs hx
    cases hg : repG L l
    · rw [show shrR L l = [] by simp [shrR, h, hg], show shrK L l = 5 by simp [shrK, h, hg]]
      replace hg := Lib.hid hg
      clear h
      go_enter Tryz.func38, Tryz.ntmps38
      go_wp2_with fail
      with_reducible refine (C1.out).mono ?_
      rintro e w' ⟨rfl, y1, rfl⟩
      have hsy1 := y1.bel.size
      (try simp only [World.size_alloc, World.size_setCell, World.size_drew] at hsy1)
      go_wp2_with fail
      with_reducible refine (CA.out l _ hg.out (by omega) _ _ _ (hr.out.bel (by (repeat (first | (with_reducible exact Below.refl _ _) | (with_reducible assumption) | (with_reducible refine Later.out _ ?_) | (with_reducible refine bel_alloc ?_ _) | (with_reducible refine bel_drew ?_) | (with_reducible refine bel_drewN ?_ _) | (with_reducible refine bel_set ?_ ?_ _) | (with_reducible refine After.out _ ?_ ?_) | (dsimp only; omega) | omega | (simp only [World.size_alloc, World.size_setCell, World.size_drew]; omega))))) (hr'.out.bel (by (repeat (first | (with_reducible exact Below.refl _ _) | (with_reducible assumption) | (with_reducible refine Later.out _ ?_) | (with_reducible refine bel_alloc ?_ _) | (with_reducible refine bel_drew ?_) | (with_reducible refine bel_drewN ?_ _) | (with_reducible refine bel_set ?_ ?_ _) | (with_reducible refine After.out _ ?_ ?_) | (dsimp only; omega) | omega | (simp only [World.size_alloc, World.size_setCell, World.size_drew]; omega)))))).mono ?_
      rintro e w' ⟨rfl, y2, rfl⟩
      have hsy2 := y2.bel.size
      (try simp only [World.size_alloc, World.size_setCell, World.size_drew] at hsy2)
      go_wp2_with fail
      refine bodyPost_ret (by simp [results, Tryz.results38, go_sem, ↓IntWalk.iteOmega, *]; try rfl) rfl ?_
      refine RetOwn.mk (.slice none 0 0) rfl (World.ownsRow_nil _ _ _ _) ?_
      (repeat (first | (with_reducible exact Below.refl _ _) | (with_reducible assumption) | (with_reducible refine Later.out _ ?_) | (with_reducible refine bel_alloc ?_ _) | (with_reducible refine bel_drew ?_) | (with_reducible refine bel_drewN ?_ _) | (with_reducible refine bel_set ?_ ?_ _) | (with_reducible refine After.out _ ?_ ?_) | (dsimp only; omega) | omega | (simp only [World.size_alloc, World.size_setCell, World.size_drew]; omega)))
    · obtain ⟨R, hR⟩ : ∃ R, shrinkS (repG L) l 0 = R := ⟨_, rfl⟩
      rw [show shrR L l = R by simp [shrR, h, hg, hR], show shrK L l = 0 by simp [shrK, h, hg]]
      replace hR := Lib.hid hR
      replace hg := Lib.hid hg
      clear h
      go_enter Tryz.func38, Tryz.ntmps38
      go_wp2_with fail
      with_reducible refine (C1.out).mono ?_
      rintro e w' ⟨rfl, y1, rfl⟩
      have hsy1 := y1.bel.size
      (try simp only [World.size_alloc, World.size_setCell, World.size_drew] at hsy1)
      go_wp2_with fail
      with_reducible refine (CA.out l _ hg.out (by omega) _ _ _ (hr.out.bel (by (repeat (first | (with_reducible exact Below.refl _ _) | (with_reducible assumption) | (with_reducible refine Later.out _ ?_) | (with_reducible refine bel_alloc ?_ _) | (with_reducible refine bel_drew ?_) | (with_reducible refine bel_drewN ?_ _) | (with_reducible refine bel_set ?_ ?_ _) | (with_reducible refine After.out _ ?_ ?_) | (dsimp only; omega) | omega | (simp only [World.size_alloc, World.size_setCell, World.size_drew]; omega))))) (hr'.out.bel (by (repeat (first | (with_reducible exact Below.refl _ _) | (with_reducible assumption) | (with_reducible refine Later.out _ ?_) | (with_reducible refine bel_alloc ?_ _) | (with_reducible refine bel_drew ?_) | (with_reducible refine bel_drewN ?_ _) | (with_reducible refine bel_set ?_ ?_ _) | (with_reducible refine After.out _ ?_ ?_) | (dsimp only; omega) | omega | (simp only [World.size_alloc, World.size_setCell, World.size_drew]; omega)))))).mono ?_
      rintro e w' ⟨rfl, y2, rfl⟩
      have hsy2 := y2.bel.size
      (try simp only [World.size_alloc, World.size_setCell, World.size_drew] at hsy2)
      go_wp2_with fail
      with_reducible refine (CC.out _ (hr'.out.bel (by (repeat (first | (with_reducible exact Below.refl _ _) | (with_reducible assumption) | (with_reducible refine Later.out _ ?_) | (with_reducible refine bel_alloc ?_ _) | (with_reducible refine bel_drew ?_) | (with_reducible refine bel_drewN ?_ _) | (with_reducible refine bel_set ?_ ?_ _) | (with_reducible refine After.out _ ?_ ?_) | (dsimp only; omega) | omega | (simp only [World.size_alloc, World.size_setCell, World.size_drew]; omega)))))).mono ?_
      rintro e w' ⟨a9, c9, rfl, hown, y9, rfl⟩
      have hsy9 := y9.bel.size
      (try simp only [World.size_alloc, World.size_setCell, World.size_drew] at hsy9)
      have H9 := Lib.hid (Owns.of hown)
      clear hown
      go_wp2_with fail
      go_loopw [7, 8] (fun o i wr => ∃ (T : List Int) (a5 : Option Addr) (c5 k : Nat), k ≤ T.length ∧ T.length ≤ 12 ∧ Within L.length T ∧ shrinkS (repG L) T k = R ∧ o = .slice a5 T.length c5 ∧ i = .int .i64 k ∧ Owns wr w.heap.size wr.heap.size 2 1 T.length a5 c5 (intCells T) ∧ ∃ z : Later w, wr = z.w) (fun o i _ => sliceLen o - (intOf i).toNat)
      case atStart => exact ⟨l, a9, c9, 0, Nat.zero_le _, hl12, hwi.out, hR.out, rfl, rfl, ⟨own_mono H9.out.own (by omega), H9.out.lt⟩, LaterC.mk (by (repeat (first | (with_reducible exact Below.refl _ _) | (with_reducible assumption) | (with_reducible refine Later.out _ ?_) | (with_reducible refine bel_alloc ?_ _) | (with_reducible refine bel_drew ?_) | (with_reducible refine bel_drewN ?_ _) | (with_reducible refine bel_set ?_ ?_ _) | (with_reducible refine After.out _ ?_ ?_) | (dsimp only; omega) | omega | (simp only [World.size_alloc, World.size_setCell, World.size_drew]; omega))))⟩
      case round =>
        obtain ⟨T, a5, c5, k, hk, hT12, hTw, hTR, rfl, rfl, hown, z, rfl⟩ := hrel
        have hzz := z.bel.size
        replace hTR := Lib.hid hTR
        replace hTw := Lib.hid hTw
        have HT := Lib.hid hown
        clear hown
        by_cases hlt : k < T.length
        · have hi1 : (k : Int) < (T.length : Int) := by omega
          have hel := Lib.hid (List.length_eraseIdx_of_lt hlt)
          have hle2 : (T.eraseIdx k).length ≤ 12 := by have := hel.out; omega
          have hwe := Lib.hid (within_erase hTw.out k)
          cases hv2 : repG L (T.eraseIdx k)
          · have Y := Lib.hid ((shrinkS_no hlt hv2).symm.trans hTR.out)
            replace hv2 := Lib.hid hv2
            go_wp2_with fail
            with_reducible refine (CL.out T k hlt (by omega) _ _ _ HT.out.cap HT.out.row).mono ?_
            rintro e w' ⟨a4, c4, rfl, hown, y4, rfl⟩
            have hsy4 := y4.bel.size
            (try simp only [World.size_alloc, World.size_setCell, World.size_drew] at hsy4)
            have H4 := Lib.hid (Owns.of hown)
            clear hown
            go_wp2_with fail
            with_reducible refine (CA.out _ _ hv2.out (by omega) _ _ _ (hr.out.bel (by (repeat (first | (with_reducible exact Below.refl _ _) | (with_reducible assumption) | (with_reducible refine Later.out _ ?_) | (with_reducible refine bel_alloc ?_ _) | (with_reducible refine bel_drew ?_) | (with_reducible refine bel_drewN ?_ _) | (with_reducible refine bel_set ?_ ?_ _) | (with_reducible refine After.out _ ?_ ?_) | (dsimp only; omega) | omega | (simp only [World.size_alloc, World.size_setCell, World.size_drew]; omega))))) H4.out.row).mono ?_
            rintro e w' ⟨rfl, y6, rfl⟩
            have hsy6 := y6.bel.size
            (try simp only [World.size_alloc, World.size_setCell, World.size_drew] at hsy6)
            go_wp2_with fail
            go_roundw
            case rel => exact ⟨T, a5, c5, k + 1, by omega, hT12, hTw.out, Y.out, rfl, by go_num, (HT.out.bel (B := z.w.heap.size) (by (repeat (first | (with_reducible exact Below.refl _ _) | (with_reducible assumption) | (with_reducible refine Later.out _ ?_) | (with_reducible refine bel_alloc ?_ _) | (with_reducible refine bel_drew ?_) | (with_reducible refine bel_drewN ?_ _) | (with_reducible refine bel_set ?_ ?_ _) | (with_reducible refine After.out _ ?_ ?_) | (dsimp only; omega) | omega | (simp only [World.size_alloc, World.size_setCell, World.size_drew]; omega)))) (Nat.le_refl _)).wide (by omega), LaterC.mk (by (repeat (first | (with_reducible exact Below.refl _ _) | (with_reducible assumption) | (with_reducible refine Later.out _ ?_) | (with_reducible refine bel_alloc ?_ _) | (with_reducible refine bel_drew ?_) | (with_reducible refine bel_drewN ?_ _) | (with_reducible refine bel_set ?_ ?_ _) | (with_reducible refine After.out _ ?_ ?_) | (dsimp only; omega) | omega | (simp only [World.size_alloc, World.size_setCell, World.size_drew]; omega))))⟩
            case measure => have := hel.out; simp [intOf, sliceLen]; omega
          · have Y := Lib.hid ((shrinkS_yes hlt hv2).symm.trans hTR.out)
            replace hv2 := Lib.hid hv2
            go_wp2_with fail
            with_reducible refine (CL.out T k hlt (by omega) _ _ _ HT.out.cap HT.out.row).mono ?_
            rintro e w' ⟨a4, c4, rfl, hown, y4, rfl⟩
            have hsy4 := y4.bel.size
            (try simp only [World.size_alloc, World.size_setCell, World.size_drew] at hsy4)
            have H4 := Lib.hid (Owns.of hown)
            clear hown
            go_wp2_with fail
            with_reducible refine (CA.out _ _ hv2.out (by omega) _ _ _ (hr.out.bel (by (repeat (first | (with_reducible exact Below.refl _ _) | (with_reducible assumption) | (with_reducible refine Later.out _ ?_) | (with_reducible refine bel_alloc ?_ _) | (with_reducible refine bel_drew ?_) | (with_reducible refine bel_drewN ?_ _) | (with_reducible refine bel_set ?_ ?_ _) | (with_reducible refine After.out _ ?_ ?_) | (dsimp only; omega) | omega | (simp only [World.size_alloc, World.size_setCell, World.size_drew]; omega))))) H4.out.row).mono ?_
            rintro e w' ⟨rfl, y6, rfl⟩
            have hsy6 := y6.bel.size
            (try simp only [World.size_alloc, World.size_setCell, World.size_drew] at hsy6)
            go_wp2_with fail
            go_roundw
            case rel => exact ⟨T.eraseIdx k, a4, c4, k, by have := hel.out; omega, hle2, hwe.out, Y.out, rfl, rfl, ⟨own_mono (H4.out.bel (B := y4.w.heap.size) (by (repeat (first | (with_reducible exact Below.refl _ _) | (with_reducible assumption) | (with_reducible refine Later.out _ ?_) | (with_reducible refine bel_alloc ?_ _) | (with_reducible refine bel_drew ?_) | (with_reducible refine bel_drewN ?_ _) | (with_reducible refine bel_set ?_ ?_ _) | (with_reducible refine After.out _ ?_ ?_) | (dsimp only; omega) | omega | (simp only [World.size_alloc, World.size_setCell, World.size_drew]; omega)))) (Nat.le_refl _)).own (by omega), ((H4.out.bel (B := y4.w.heap.size) (by (repeat (first | (with_reducible exact Below.refl _ _) | (with_reducible assumption) | (with_reducible refine Later.out _ ?_) | (with_reducible refine bel_alloc ?_ _) | (with_reducible refine bel_drew ?_) | (with_reducible refine bel_drewN ?_ _) | (with_reducible refine bel_set ?_ ?_ _) | (with_reducible refine After.out _ ?_ ?_) | (dsimp only; omega) | omega | (simp only [World.size_alloc, World.size_setCell, World.size_drew]; omega)))) (Nat.le_refl _)).wide (by omega)).lt⟩, LaterC.mk (by (repeat (first | (with_reducible exact Below.refl _ _) | (with_reducible assumption) | (with_reducible refine Later.out _ ?_) | (with_reducible refine bel_alloc ?_ _) | (with_reducible refine bel_drew ?_) | (with_reducible refine bel_drewN ?_ _) | (with_reducible refine bel_set ?_ ?_ _) | (with_reducible refine After.out _ ?_ ?_) | (dsimp only; omega) | omega | (simp only [World.size_alloc, World.size_setCell, World.size_drew]; omega))))⟩
            case measure => have := hel.out; simp [intOf, sliceLen]; omega
        · obtain rfl : k = T.length := by omega
          have Y := Lib.hid ((shrinkS_end (Nat.le_refl _)).symm.trans hTR.out)
          go_wp2_with fail
          refine bodyPost_ret (by simp [results, Tryz.results38, go_sem, ↓IntWalk.iteOmega, *]; try rfl) rfl ?_
          rw [← Y.out]
          refine RetOwn.mk _ rfl HT.out.own ?_
          (repeat (first | (with_reducible exact Below.refl _ _) | (with_reducible assumption) | (with_reducible refine Later.out _ ?_) | (with_reducible refine bel_alloc ?_ _) | (with_reducible refine bel_drew ?_) | (with_reducible refine bel_drewN ?_ _) | (with_reducible refine bel_set ?_ ?_ _) | (with_reducible refine After.out _ ?_ ?_) | (dsimp only; omega) | omega | (simp only [World.size_alloc, World.size_setCell, World.size_drew]; omega)))
  · rw [show shrR L l = [] by simp [shrR, h], show shrK L l = codeZ L l by simp [shrK, h]]
    generalize codeZ L l = k at C1 h
    have hk : (k == 0) = false := by simpa using h
    have hk' : (k != 0) = true := by simpa using h
    replace C1 := Lib.hid C1
    clear ok hr hr' hs hx
    go_enter Tryz.func38, Tryz.ntmps38
    go_wp2_with fail
    with_reducible refine (C1.out).mono ?_
    rintro e w' ⟨rfl, y1, rfl⟩
    have hsy1 := y1.bel.size
    (try simp only [World.size_alloc, World.size_setCell, World.size_drew] at hsy1)
    go_wp2_with fail
    refine bodyPost_ret (by simp [results, Tryz.results38, go_sem, ↓IntWalk.iteOmega, *]; try rfl) rfl ?_
    refine RetOwn.mk (.slice none 0 0) rfl (World.ownsRow_nil _ _ _ _) ?_
    (repeat (first | (with_reducible exact Below.refl _ _) | (with_reducible assumption) | (with_reducible refine Later.out _ ?_) | (with_reducible refine bel_alloc ?_ _) | (with_reducible refine bel_drew ?_) | (with_reducible refine bel_drewN ?_ _) | (with_reducible refine bel_set ?_ ?_ _) | (with_reducible refine After.out _ ?_ ?_) | (dsimp only; omega) | omega | (simp only [World.size_alloc, World.size_setCell, World.size_drew]; omega)))
set_option maxRecDepth 8000 in
set_option maxHeartbeats 4000000 in
theorem shr_spec (hs : Shp a' n' c') : Calls Tryz.prog 39 #[.slice a n c, .slice a' n' c'] w (RetOwn w 2 1 (shrR L l).length (intCells (shrR L l)) fun v => .tuple #[v, .int .i64 (shrK L l)]) := by
  have C1 := sCode_any L l a a' n c n' c' w hn hn' hm hm' hr hr' ok
  by_cases h : codeZ L l = 0
  · have hcl := code_claims h
    have hri := code_rises h
    have hwi := within_of_rises hri
    have h12 := len_of_claims hcl
    have hll := rises_len hri
    have hv := named_of fun c hc => claim_of_claims hcl hc
    subst hn hn'
    rw [h] at C1
    have CA := Lib.hid (fun (T : List Int) (b : Bool) (hb : repG L T = b) (hl : T.length ≤ 1000) a' c' (w : World) hr hr' => sRepair_b L T a a' L.length c T.length c' w rfl rfl hm (by omega) hr hr' hv hb)
    have CL := Lib.hid (fun (T : List Int) (i : Nat) (hi : i < T.length) (hl : T.length ≤ 1000) a' c' (w : World) hc hr => sWithout_any T i a' T.length c' w rfl hi hl hc hr)
    have CC := Lib.hid (fun (w : World) hr => sOwn_any l a' l.length c' w rfl (by omega) hr)
    replace C1 := Lib.hid C1
    replace hr := Lib.hid hr
    replace hr' := Lib.hid hr'
    replace hwi := Lib.hid hwi
    have hl12 : l.length ≤ 12 := by omega
    clear ok hcl hri hs hv
    cases hg : repG L l
    · rw [show shrR L l = [] by simp [shrR, h, hg], show shrK L l = 5 by simp [shrK, h, hg]]
      replace hg := Lib.hid hg
      clear h
      go_enter Tryz.func39, Tryz.ntmps39
      go_wp2_with fail
      with_reducible refine (C1.out).mono ?_
      rintro e w' ⟨rfl, y1, rfl⟩
      have hsy1 := y1.bel.size
      (try simp only [World.size_alloc, World.size_setCell, World.size_drew] at hsy1)
      go_wp2_with fail
      with_reducible refine (CA.out l _ hg.out (by omega) _ _ _ (hr.out.bel (by (repeat (first | (with_reducible exact Below.refl _ _) | (with_reducible assumption) | (with_reducible refine Later.out _ ?_) | (with_reducible refine bel_alloc ?_ _) | (with_reducible refine bel_drew ?_) | (with_reducible refine bel_drewN ?_ _) | (with_reducible refine bel_set ?_ ?_ _) | (with_reducible refine After.out _ ?_ ?_) | (dsimp only; omega) | omega | (simp only [World.size_alloc, World.size_setCell, World.size_drew]; omega))))) (hr'.out.bel (by (repeat (first | (with_reducible exact Below.refl _ _) | (with_reducible assumption) | (with_reducible refine Later.out _ ?_) | (with_reducible refine bel_alloc ?_ _) | (with_reducible refine bel_drew ?_) | (with_reducible refine bel_drewN ?_ _) | (with_reducible refine bel_set ?_ ?_ _) | (with_reducible refine After.out _ ?_ ?_) | (dsimp only; omega) | omega | (simp only [World.size_alloc, World.size_setCell, World.size_drew]; omega)))))).mono ?_
      rintro e w' ⟨rfl, y2, rfl⟩
      have hsy2 := y2.bel.size
      (try simp only [World.size_alloc, World.size_setCell, World.size_drew] at hsy2)
      go_wp2_with fail
      refine bodyPost_ret (by simp [results, Tryz.results39, go_sem, ↓IntWalk.iteOmega, *]; try rfl) rfl ?_
      refine RetOwn.mk (.slice none 0 0) rfl (World.ownsRow_nil _ _ _ _) ?_
      (repeat (first | (with_reducible exact Below.refl _ _) | (with_reducible assumption) | (with_reducible refine Later.out _ ?_) | (with_reducible refine bel_alloc ?_ _) | (with_reducible refine bel_drew ?_) | (with_reducible refine bel_drewN ?_ _) | (with_reducible refine bel_set ?_ ?_ _) | (with_reducible refine After.out _ ?_ ?_) | (dsimp only; omega) | omega | (simp only [World.size_alloc, World.size_setCell, World.size_drew]; omega)))
    · obtain ⟨R, hR⟩ : ∃ R, shrinkS (repG L) l 0 = R := ⟨_, rfl⟩
      rw [show shrR L l = R by simp [shrR, h, hg, hR], show shrK L l = 0 by simp [shrK, h, hg]]
      replace hR := Lib.hid hR
      replace hg := Lib.hid hg
      clear h
      go_enter Tryz.func39, Tryz.ntmps39
      go_wp2_with fail
      with_reducible refine (C1.out).mono ?_
      rintro e w' ⟨rfl, y1, rfl⟩
      have hsy1 := y1.bel.size
      (try simp only [World.size_alloc, World.size_setCell, World.size_drew] at hsy1)
      go_wp2_with fail
      with_reducible refine (CA.out l _ hg.out (by omega) _ _ _ (hr.out.bel (by (repeat (first | (with_reducible exact Below.refl _ _) | (with_reducible assumption) | (with_reducible refine Later.out _ ?_) | (with_reducible refine bel_alloc ?_ _) | (with_reducible refine bel_drew ?_) | (with_reducible refine bel_drewN ?_ _) | (with_reducible refine bel_set ?_ ?_ _) | (with_reducible refine After.out _ ?_ ?_) | (dsimp only; omega) | omega | (simp only [World.size_alloc, World.size_setCell, World.size_drew]; omega))))) (hr'.out.bel (by (repeat (first | (with_reducible exact Below.refl _ _) | (with_reducible assumption) | (with_reducible refine Later.out _ ?_) | (with_reducible refine bel_alloc ?_ _) | (with_reducible refine bel_drew ?_) | (with_reducible refine bel_drewN ?_ _) | (with_reducible refine bel_set ?_ ?_ _) | (with_reducible refine After.out _ ?_ ?_) | (dsimp only; omega) | omega | (simp only [World.size_alloc, World.size_setCell, World.size_drew]; omega)))))).mono ?_
      rintro e w' ⟨rfl, y2, rfl⟩
      have hsy2 := y2.bel.size
      (try simp only [World.size_alloc, World.size_setCell, World.size_drew] at hsy2)
      go_wp2_with fail
      with_reducible refine (CC.out _ (hr'.out.bel (by (repeat (first | (with_reducible exact Below.refl _ _) | (with_reducible assumption) | (with_reducible refine Later.out _ ?_) | (with_reducible refine bel_alloc ?_ _) | (with_reducible refine bel_drew ?_) | (with_reducible refine bel_drewN ?_ _) | (with_reducible refine bel_set ?_ ?_ _) | (with_reducible refine After.out _ ?_ ?_) | (dsimp only; omega) | omega | (simp only [World.size_alloc, World.size_setCell, World.size_drew]; omega)))))).mono ?_
      rintro e w' ⟨a9, c9, rfl, hown, y9, rfl⟩
      have hsy9 := y9.bel.size
      (try simp only [World.size_alloc, World.size_setCell, World.size_drew] at hsy9)
      have H9 := Lib.hid (Owns.of hown)
      clear hown
      go_wp2_with fail
      go_loopw [7, 8] (fun o i wr => ∃ (T : List Int) (a5 : Option Addr) (c5 k : Nat), k ≤ T.length ∧ T.length ≤ 12 ∧ Within L.length T ∧ shrinkS (repG L) T k = R ∧ o = .slice a5 T.length c5 ∧ i = .int .i64 k ∧ Owns wr w.heap.size wr.heap.size 2 1 T.length a5 c5 (intCells T) ∧ ∃ z : Later w, wr = z.w) (fun o i _ => sliceLen o - (intOf i).toNat)
      case atStart => exact ⟨l, a9, c9, 0, Nat.zero_le _, hl12, hwi.out, hR.out, rfl, rfl, ⟨own_mono H9.out.own (by omega), H9.out.lt⟩, LaterC.mk (by (repeat (first | (with_reducible exact Below.refl _ _) | (with_reducible assumption) | (with_reducible refine Later.out _ ?_) | (with_reducible refine bel_alloc ?_ _) | (with_reducible refine bel_drew ?_) | (with_reducible refine bel_drewN ?_ _) | (with_reducible refine bel_set ?_ ?_ _) | (with_reducible refine After.out _ ?_ ?_) | (dsimp only; omega) | omega | (simp only [World.size_alloc, World.size_setCell, World.size_drew]; omega))))⟩
      case round =>
        obtain ⟨T, a5, c5, k, hk, hT12, hTw, hTR, rfl, rfl, hown, z, rfl⟩ := hrel
        have hzz := z.bel.size
        replace hTR := Lib.hid hTR
        replace hTw := Lib.hid hTw
        have HT := Lib.hid hown
        clear hown
        by_cases hlt : k < T.length
        · have hi1 : (k : Int) < (T.length : Int) := by omega
          have hel := Lib.hid (List.length_eraseIdx_of_lt hlt)
          have hle2 : (T.eraseIdx k).length ≤ 12 := by have := hel.out; omega
          have hwe := Lib.hid (within_erase hTw.out k)
          cases hv2 : repG L (T.eraseIdx k)
          · have Y := Lib.hid ((shrinkS_no hlt hv2).symm.trans hTR.out)
            replace hv2 := Lib.hid hv2
            go_wp2_with fail
            with_reducible refine (CL.out T k hlt (by omega) _ _ _ HT.out.cap HT.out.row).mono ?_
            rintro e w' ⟨a4, c4, rfl, hown, y4, rfl⟩
            have hsy4 := y4.bel.size
            (try simp only [World.size_alloc, World.size_setCell, World.size_drew] at hsy4)
            have H4 := Lib.hid (Owns.of hown)
            clear hown
            go_wp2_with fail
            with_reducible refine (CA.out _ _ hv2.out (by omega) _ _ _ (hr.out.bel (by (repeat (first | (with_reducible exact Below.refl _ _) | (with_reducible assumption) | (with_reducible refine Later.out _ ?_) | (with_reducible refine bel_alloc ?_ _) | (with_reducible refine bel_drew ?_) | (with_reducible refine bel_drewN ?_ _) | (with_reducible refine bel_set ?_ ?_ _) | (with_reducible refine After.out _ ?_ ?_) | (dsimp only; omega) | omega | (simp only [World.size_alloc, World.size_setCell, World.size_drew]; omega))))) H4.out.row).mono ?_
            rintro e w' ⟨rfl, y6, rfl⟩
            have hsy6 := y6.bel.size
            (try simp only [World.size_alloc, World.size_setCell, World.size_drew] at hsy6)
            go_wp2_with fail
            go_roundw
            case rel => exact ⟨T, a5, c5, k + 1, by omega, hT12, hTw.out, Y.out, rfl, by go_num, (HT.out.bel (B := z.w.heap.size) (by (repeat (first | (with_reducible exact Below.refl _ _) | (with_reducible assumption) | (with_reducible refine Later.out _ ?_) | (with_reducible refine bel_alloc ?_ _) | (with_reducible refine bel_drew ?_) | (with_reducible refine bel_drewN ?_ _) | (with_reducible refine bel_set ?_ ?_ _) | (with_reducible refine After.out _ ?_ ?_) | (dsimp only; omega) | omega | (simp only [World.size_alloc, World.size_setCell, World.size_drew]; omega)))) (Nat.le_refl _)).wide (by omega), LaterC.mk (by (repeat (first | (with_reducible exact Below.refl _ _) | (with_reducible assumption) | (with_reducible refine Later.out _ ?_) | (with_reducible refine bel_alloc ?_ _) | (with_reducible refine bel_drew ?_) | (with_reducible refine bel_drewN ?_ _) | (with_reducible refine bel_set ?_ ?_ _) | (with_reducible refine After.out _ ?_ ?_) | (dsimp only; omega) | omega | (simp only [World.size_alloc, World.size_setCell, World.size_drew]; omega))))⟩
            case measure => have := hel.out; simp [intOf, sliceLen]; omega
          · have Y := Lib.hid ((shrinkS_yes hlt hv2).symm.trans hTR.out)
            replace hv2 := Lib.hid hv2
            go_wp2_with fail
            with_reducible refine (CL.out T k hlt (by omega) _ _ _ HT.out.cap HT.out.row).mono ?_
            rintro e w' ⟨a4, c4, rfl, hown, y4, rfl⟩
            have hsy4 := y4.bel.size
            (try simp only [World.size_alloc, World.size_setCell, World.size_drew] at hsy4)
            have H4 := Lib.hid (Owns.of hown)
            clear hown
            go_wp2_with fail
            with_reducible refine (CA.out _ _ hv2.out (by omega) _ _ _ (hr.out.bel (by (repeat (first | (with_reducible exact Below.refl _ _) | (with_reducible assumption) | (with_reducible refine Later.out _ ?_) | (with_reducible refine bel_alloc ?_ _) | (with_reducible refine bel_drew ?_) | (with_reducible refine bel_drewN ?_ _) | (with_reducible refine bel_set ?_ ?_ _) | (with_reducible refine After.out _ ?_ ?_) | (dsimp only; omega) | omega | (simp only [World.size_alloc, World.size_setCell, World.size_drew]; omega))))) H4.out.row).mono ?_
            rintro e w' ⟨rfl, y6, rfl⟩
            have hsy6 := y6.bel.size
            (try simp only [World.size_alloc, World.size_setCell, World.size_drew] at hsy6)
            go_wp2_with fail
            go_roundw
            case rel => exact ⟨T.eraseIdx k, a4, c4, k, by have := hel.out; omega, hle2, hwe.out, Y.out, rfl, rfl, ⟨own_mono (H4.out.bel (B := y4.w.heap.size) (by (repeat (first | (with_reducible exact Below.refl _ _) | (with_reducible assumption) | (with_reducible refine Later.out _ ?_) | (with_reducible refine bel_alloc ?_ _) | (with_reducible refine bel_drew ?_) | (with_reducible refine bel_drewN ?_ _) | (with_reducible refine bel_set ?_ ?_ _) | (with_reducible refine After.out _ ?_ ?_) | (dsimp only; omega) | omega | (simp only [World.size_alloc, World.size_setCell, World.size_drew]; omega)))) (Nat.le_refl _)).own (by omega), ((H4.out.bel (B := y4.w.heap.size) (by (repeat (first | (with_reducible exact Below.refl _ _) | (with_reducible assumption) | (with_reducible refine Later.out _ ?_) | (with_reducible refine bel_alloc ?_ _) | (with_reducible refine bel_drew ?_) | (with_reducible refine bel_drewN ?_ _) | (with_reducible refine bel_set ?_ ?_ _) | (with_reducible refine After.out _ ?_ ?_) | (dsimp only; omega) | omega | (simp only [World.size_alloc, World.size_setCell, World.size_drew]; omega)))) (Nat.le_refl _)).wide (by omega)).lt⟩, LaterC.mk (by (repeat (first | (with_reducible exact Below.refl _ _) | (with_reducible assumption) | (with_reducible refine Later.out _ ?_) | (with_reducible refine bel_alloc ?_ _) | (with_reducible refine bel_drew ?_) | (with_reducible refine bel_drewN ?_ _) | (with_reducible refine bel_set ?_ ?_ _) | (with_reducible refine After.out _ ?_ ?_) | (dsimp only; omega) | omega | (simp only [World.size_alloc, World.size_setCell, World.size_drew]; omega))))⟩
            case measure => have := hel.out; simp [intOf, sliceLen]; omega
        · obtain rfl : k = T.length := by omega
          have Y := Lib.hid ((shrinkS_end (Nat.le_refl _)).symm.trans hTR.out)
          go_wp2_with fail
          refine bodyPost_ret (by simp [results, Tryz.results39, go_sem, ↓IntWalk.iteOmega, *]; try rfl) rfl ?_
          rw [← Y.out]
          refine RetOwn.mk _ rfl HT.out.own ?_
          (repeat (first | (with_reducible exact Below.refl _ _) | (with_reducible assumption) | (with_reducible refine Later.out _ ?_) | (with_reducible refine bel_alloc ?_ _) | (with_reducible refine bel_drew ?_) | (with_reducible refine bel_drewN ?_ _) | (with_reducible refine bel_set ?_ ?_ _) | (with_reducible refine After.out _ ?_ ?_) | (dsimp only; omega) | omega | (simp only [World.size_alloc, World.size_setCell, World.size_drew]; omega)))
  · rw [show shrR L l = [] by simp [shrR, h], show shrK L l = codeZ L l by simp [shrK, h]]
    generalize codeZ L l = k at C1 h
    have hk : (k == 0) = false := by simpa using h
    have hk' : (k != 0) = true := by simpa using h
    replace C1 := Lib.hid C1
    clear ok hr hr' hs
    go_enter Tryz.func39, Tryz.ntmps39
    go_wp2_with fail
    with_reducible refine (C1.out).mono ?_
    rintro e w' ⟨rfl, y1, rfl⟩
    have hsy1 := y1.bel.size
    (try simp only [World.size_alloc, World.size_setCell, World.size_drew] at hsy1)
    go_wp2_with fail
    refine bodyPost_ret (by simp [results, Tryz.results39, go_sem, ↓IntWalk.iteOmega, *]; try rfl) rfl ?_
    refine RetOwn.mk (.slice none 0 0) rfl (World.ownsRow_nil _ _ _ _) ?_
    (repeat (first | (with_reducible exact Below.refl _ _) | (with_reducible assumption) | (with_reducible refine Later.out _ ?_) | (with_reducible refine bel_alloc ?_ _) | (with_reducible refine bel_drew ?_) | (with_reducible refine bel_drewN ?_ _) | (with_reducible refine bel_set ?_ ?_ _) | (with_reducible refine After.out _ ?_ ?_) | (dsimp only; omega) | omega | (simp only [World.size_alloc, World.size_setCell, World.size_drew]; omega)))
end
section
variable (L : List Clm) (l : List Int) (a : Option Addr) (n c : Nat) (a' : Option Addr) (n' c' : Nat) (w : World) (hn : L.length = n) (hm : n ≤ 1048576) (hn' : l.length = n') (hm' : n' ≤ 1048576) (hr : Row w a (clmsCells L)) (hr' : Row w a' (intCells l)) (ok : ∀ c ∈ L, ClmOk c)
include hn hn' hm hm' hr hr' ok
end
end Go.Proofs.YtflcfdiochohgaaGreatDoor

/- SourcesOf, both sides. -/
set_option linter.unusedSimpArgs false
set_option linter.unusedVariables false
namespace Go.Proofs.YtflcfdiochohgaaGreatDoor
open Go.RowKit
section
variable (L : List Clm) (l : List Int) (a : Option Addr) (n c : Nat) (a' : Option Addr) (n' c' : Nat) (w : World) (hn : L.length = n) (hm : n ≤ 1048576) (hn' : l.length = n') (hm' : n' ≤ 1048576) (hr : Row w a (clmsCells L)) (hr' : Row w a' (intCells l)) (ok : ∀ c ∈ L, ClmOk c)
include hn hn' hm hm' hr hr' ok
end

end Go.Proofs.YtflcfdiochohgaaGreatDoor

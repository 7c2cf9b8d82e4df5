import Derived.Test.YtcpddgkloeklaaaGreatDoorPackC
import Derived.Test.YtcpddgkloeklaaaGreatDoorPackAb
import Derived.Test.YtcpddgkloeklaaaGreatDoorPackB
import Derived.Test.YtcpddgkloeklaaaGreatDoorShelf2
import Derived.Test.YtcpddgkloeklaaaGreatDoorPackA
import Derived.Shelf.Sort.Plain
import Derived.Shelf.Slices.CompactS
import Derived.Shelf.Slices.In.SortNone
import Derived.Sort.OwnSorted
/- Several of my texts, one behind the other: Shrink, Strs, Src, Ins, Srcs, SrcC. -/
/- ShrinkRepair and CoreWithin: both sides; slices.Clone of numbers. -/
set_option linter.unusedSimpArgs false
set_option linter.unusedVariables false
namespace Go.Proofs.YtcpddgkloeklaaaGreatDoor
open Go.RowKit
/-- The shape of a slice that a call made. -/
structure Shp (a : Option Addr) (n c : Nat) : Prop where
  cap : n ≤ c
  nil : a = none → c = 0
  spot : ∀ p : Addr, a = some p → p.spot = none
theorem Owns.shp {w : World} {lo hi e s n : Nat} {a : Option Addr} {c : Nat} {xs : List Value} (h : Owns w lo hi e s n a c xs) : Shp a n c := by
  refine ⟨h.cap, ?_, ?_⟩ <;> rcases h.own.2 with ⟨hv, hn⟩ | ⟨g, cap, cur, hv, _⟩
  · intro _; injection hv
  · rintro rfl; injection hv with e; cases e
  · rintro p rfl; injection hv with e; cases e
  · rintro p rfl
    have e : some p = some ⟨g, 0, none⟩ := by injection hv
    cases e
    rfl
set_option maxRecDepth 4000 in
set_option maxHeartbeats 400000 in
theorem cloneInt_any (l : List Int) (a : Option Addr) (n c : Nat) (w : World) (hn : l.length = n) (hm : n ≤ 1048576) (hs : Shp a n c) (hr : Row w a (intCells l)) :
    Calls Tryz.prog 66 #[.slice a n c] w (RetOwn w 2 1 n (intCells l) id) := by
  subst hn
  obtain ⟨ii, j1, j2, j3, j4⟩ := info_i64'
  have Jii := Lib.hid (And.intro j1 (And.intro j2 (And.intro j3 j4)))
  have HR := Lib.hid hr
  have hcap := hs.cap
  have hz := hs.nil
  have hp := hs.spot
  clear j1 j2 j3 j4 hs
  cases a with
  | none =>
    obtain rfl := hz rfl
    have h0 : l.length = 0 := by omega
    have hl : l = [] := List.length_eq_zero_iff.1 h0
    subst hl
    have heq := fun w => Lib.run_eql_slice_nil (P := Tryz.prog) w 23 2 none 0 0 0 0 Tryz.underlying23
    clear hz hp hr
    go_enter Tryz.func66, Tryz.ntmps66
    go_wp2_with fail
    go_ret
    exact RetOwn.mk (.slice none 0 0) rfl (World.ownsRow_nil _ _ _ _) (by (repeat (first | (with_reducible exact Below.refl _ _) | (with_reducible assumption) | (with_reducible refine Later.out _ ?_) | (with_reducible refine bel_alloc ?_ _) | (with_reducible refine bel_drew ?_) | (with_reducible refine bel_drewN ?_ _) | (with_reducible refine bel_set ?_ ?_ _) | (with_reducible refine After.out _ ?_ ?_) | (dsimp only; omega) | omega | (simp only [World.size_alloc, World.size_setCell, World.size_drew]; omega))))
  | some p =>
    obtain ⟨b, o, s⟩ := p
    obtain rfl : s = none := hp _ rfl
    have heq := fun w => Lib.run_eql_slice_nil (P := Tryz.prog) w 23 2 (some ⟨b, o, none⟩) l.length c 0 0 Tryz.underlying23
    clear hz hp hr
    go_enter Tryz.func66, Tryz.ntmps66
    go_wp2_with (at_builtin; (refine wpList_append_later _ rfl _ _ _ rfl 2 ii _ 1 8 Tryz.underlying23 Jii.out.1 Jii.out.2.1 Jii.out.2.2.1 Jii.out.2.2.2 rfl (by decide) (w) ?qa1 _ _ _ ([]) rfl ?qa2 _ _ _ (intCells l) rfl ?qa3 ?qa4 ?qa5 ?qa6 ?qa7 ?_); (case qa1 => (repeat (first | (with_reducible exact Below.refl _ _) | (with_reducible assumption) | (with_reducible refine Later.out _ ?_) | (with_reducible refine bel_alloc ?_ _) | (with_reducible refine bel_drew ?_) | (with_reducible refine bel_drewN ?_ _) | (with_reducible refine bel_set ?_ ?_ _) | (with_reducible refine After.out _ ?_ ?_) | (dsimp only; omega) | omega | (simp only [World.size_alloc, World.size_setCell, World.size_drew]; omega)))); (case qa2 => exact World.ownsRow_lit w #[] 0 (Nat.le_refl _) (by unfold maxLen; omega) rfl); (case qa3 => (first | rfl | (simp [boolCells]; done) | (simp [intCells]; done) | (simp; done) | (first | omega | (simp only [List.length_append, List.length_cons, List.length_nil]; omega)))); (case qa4 => exact HR.out.bel (by (repeat (first | (with_reducible exact Below.refl _ _) | (with_reducible assumption) | (with_reducible refine Later.out _ ?_) | (with_reducible refine bel_alloc ?_ _) | (with_reducible refine bel_drew ?_) | (with_reducible refine bel_drewN ?_ _) | (with_reducible refine bel_set ?_ ?_ _) | (with_reducible refine After.out _ ?_ ?_) | (dsimp only; omega) | omega | (simp only [World.size_alloc, World.size_setCell, World.size_drew]; omega))))); (case qa5 => exact one_ints l); (case qa6 => (unfold maxLen; (first | omega | (simp only [List.length_append, List.length_cons, List.length_nil]; omega)))); (case qa7 => (first | omega | (simp only [List.length_append, List.length_cons, List.length_nil]; omega))); intro a' c' x hown)
    simp only [Nat.zero_add, List.nil_append] at hown
    have HO := Lib.hid hown
    clear hown
    go_ret
    exact RetOwn.mk _ rfl HO.out x.bel
noncomputable def shrR (L : List Clm) (l : List Int) : List Int := if codeZ L l = 0 then (if repG L l then shrinkS (repG L) l 0 else []) else []
noncomputable def shrK (L : List Clm) (l : List Int) : Int := if codeZ L l = 0 then (if repG L l then 0 else 5) else codeZ L l
theorem shrR_len (L : List Clm) (l : List Int) {n : Nat} (hn : L.length = n) (hm : n ≤ 1048576) : (shrR L l).length ≤ 1048576 := by
  unfold shrR
  split
  · rename_i h
    have h12 := len_of_claims (code_claims h)
    have hll := rises_len (code_rises h)
    split
    · have := shrinkL_le (repG L) (l.length - 0) l 0
      unfold shrinkS
      omega
    · simp
  · simp
section
variable (L : List Clm) (l : List Int) (a : Option Addr) (n c : Nat) (a' : Option Addr) (n' c' : Nat) (w : World) (hn : L.length = n) (hm : n ≤ 1048576) (hn' : l.length = n') (hm' : n' ≤ 1048576) (hr : Row w a (clmsCells L)) (hr' : Row w a' (intCells l)) (ok : ∀ c ∈ L, ClmOk c)
include hn hn' hm hm' hr hr' ok
set_option maxRecDepth 8000 in
set_option maxHeartbeats 4000000 in
theorem shr_impl (hs : Shp a' n' c') (hx : Max w) : Calls Tryz.prog 28 #[.slice a n c, .slice a' n' c'] w (RetOwn w 2 1 (shrR L l).length (intCells (shrR L l)) fun v => .tuple #[v, .int .i64 (shrK L l)]) := by
  have C1 := chosenCode_any L l a a' n c n' c' w hn hn' hm hm' hr hr' ok hx
  by_cases h : codeZ L l = 0
  · have hcl := code_claims h
    have hri := code_rises h
    have hwi := within_of_rises hri
    have h12 := len_of_claims hcl
    have hll := rises_len hri
    subst hn hn'
    rw [h] at C1
    have CA := Lib.hid (fun (T : List Int) (b : Bool) (hb : repG L T = b) (hl : T.length ≤ 1000) a' c' (w : World) hr hr' => isRepair_b L T a a' L.length c T.length c' w rfl rfl hm (by omega) hr hr' hb)
    have CL := Lib.hid (fun (T : List Int) (i : Nat) (hi : i < T.length) (hl : T.length ≤ 1000) a' c' (w : World) hc hr => lacking_any T i a' T.length c' w rfl hi hl hc hr)
    have CC := Lib.hid (fun (w : World) hr => cloneInt_any l a' l.length c' w rfl hm' hs hr)
    replace C1 := Lib.hid C1
    replace hr := Lib.hid hr
    replace hr' := Lib.hid hr'
    replace hwi := Lib.hid hwi
    have hl12 : l.length ≤ 12 := by omega
    clear ok hcl hri hs hx
    cases hg : repG L l
    · rw [show shrR L l = [] by simp [shrR, h, hg], show shrK L l = 5 by simp [shrK, h, hg]]
      replace hg := Lib.hid hg
      clear h
      go_enter Tryz.func28, Tryz.ntmps28
      go_wp2_with fail
      with_reducible refine (C1.out).mono ?_
      rintro e w' ⟨rfl, y1, rfl⟩
      have hsy1 := y1.bel.size
      (try simp only [World.size_alloc, World.size_setCell, World.size_drew] at hsy1)
      go_wp2_with fail
      with_reducible refine (CA.out l _ hg.out (by omega) _ _ _ (hr.out.bel (by (repeat (first | (with_reducible exact Below.refl _ _) | (with_reducible assumption) | (with_reducible refine Later.out _ ?_) | (with_reducible refine bel_alloc ?_ _) | (with_reducible refine bel_drew ?_) | (with_reducible refine bel_drewN ?_ _) | (with_reducible refine bel_set ?_ ?_ _) | (with_reducible refine After.out _ ?_ ?_) | (dsimp only; omega) | omega | (simp only [World.size_alloc, World.size_setCell, World.size_drew]; omega))))) (hr'.out.bel (by (repeat (first | (with_reducible exact Below.refl _ _) | (with_reducible assumption) | (with_reducible refine Later.out _ ?_) | (with_reducible refine bel_alloc ?_ _) | (with_reducible refine bel_drew ?_) | (with_reducible refine bel_drewN ?_ _) | (with_reducible refine bel_set ?_ ?_ _) | (with_reducible refine After.out _ ?_ ?_) | (dsimp only; omega) | omega | (simp only [World.size_alloc, World.size_setCell, World.size_drew]; omega)))))).mono ?_
      rintro e w' ⟨rfl, y2, rfl⟩
      have hsy2 := y2.bel.size
      (try simp only [World.size_alloc, World.size_setCell, World.size_drew] at hsy2)
      go_wp2_with fail
      refine bodyPost_ret (by simp [results, Tryz.results28, go_sem, ↓IntWalk.iteOmega, *]; try rfl) rfl ?_
      refine RetOwn.mk (.slice none 0 0) rfl (World.ownsRow_nil _ _ _ _) ?_
      (repeat (first | (with_reducible exact Below.refl _ _) | (with_reducible assumption) | (with_reducible refine Later.out _ ?_) | (with_reducible refine bel_alloc ?_ _) | (with_reducible refine bel_drew ?_) | (with_reducible refine bel_drewN ?_ _) | (with_reducible refine bel_set ?_ ?_ _) | (with_reducible refine After.out _ ?_ ?_) | (dsimp only; omega) | omega | (simp only [World.size_alloc, World.size_setCell, World.size_drew]; omega)))
    · obtain ⟨R, hR⟩ : ∃ R, shrinkS (repG L) l 0 = R := ⟨_, rfl⟩
      rw [show shrR L l = R by simp [shrR, h, hg, hR], show shrK L l = 0 by simp [shrK, h, hg]]
      replace hR := Lib.hid hR
      replace hg := Lib.hid hg
      clear h
      go_enter Tryz.func28, Tryz.ntmps28
      go_wp2_with fail
      with_reducible refine (C1.out).mono ?_
      rintro e w' ⟨rfl, y1, rfl⟩
      have hsy1 := y1.bel.size
      (try simp only [World.size_alloc, World.size_setCell, World.size_drew] at hsy1)
      go_wp2_with fail
      with_reducible refine (CA.out l _ hg.out (by omega) _ _ _ (hr.out.bel (by (repeat (first | (with_reducible exact Below.refl _ _) | (with_reducible assumption) | (with_reducible refine Later.out _ ?_) | (with_reducible refine bel_alloc ?_ _) | (with_reducible refine bel_drew ?_) | (with_reducible refine bel_drewN ?_ _) | (with_reducible refine bel_set ?_ ?_ _) | (with_reducible refine After.out _ ?_ ?_) | (dsimp only; omega) | omega | (simp only [World.size_alloc, World.size_setCell, World.size_drew]; omega))))) (hr'.out.bel (by (repeat (first | (with_reducible exact Below.refl _ _) | (with_reducible assumption) | (with_reducible refine Later.out _ ?_) | (with_reducible refine bel_alloc ?_ _) | (with_reducible refine bel_drew ?_) | (with_reducible refine bel_drewN ?_ _) | (with_reducible refine bel_set ?_ ?_ _) | (with_reducible refine After.out _ ?_ ?_) | (dsimp only; omega) | omega | (simp only [World.size_alloc, World.size_setCell, World.size_drew]; omega)))))).mono ?_
      rintro e w' ⟨rfl, y2, rfl⟩
      have hsy2 := y2.bel.size
      (try simp only [World.size_alloc, World.size_setCell, World.size_drew] at hsy2)
      go_wp2_with fail
      with_reducible refine (CC.out _ (hr'.out.bel (by (repeat (first | (with_reducible exact Below.refl _ _) | (with_reducible assumption) | (with_reducible refine Later.out _ ?_) | (with_reducible refine bel_alloc ?_ _) | (with_reducible refine bel_drew ?_) | (with_reducible refine bel_drewN ?_ _) | (with_reducible refine bel_set ?_ ?_ _) | (with_reducible refine After.out _ ?_ ?_) | (dsimp only; omega) | omega | (simp only [World.size_alloc, World.size_setCell, World.size_drew]; omega)))))).mono ?_
      rintro e w' ⟨a9, c9, rfl, hown, y9, rfl⟩
      have hsy9 := y9.bel.size
      (try simp only [World.size_alloc, World.size_setCell, World.size_drew] at hsy9)
      have H9 := Lib.hid (Owns.of hown)
      clear hown
      go_wp2_with fail
      go_loopw [7, 8] (fun o i wr => ∃ (T : List Int) (a5 : Option Addr) (c5 k : Nat), k ≤ T.length ∧ T.length ≤ 12 ∧ Within L.length T ∧ shrinkS (repG L) T k = R ∧ o = .slice a5 T.length c5 ∧ i = .int .i64 k ∧ Owns wr w.heap.size wr.heap.size 2 1 T.length a5 c5 (intCells T) ∧ ∃ z : Later w, wr = z.w) (fun o i _ => sliceLen o - (intOf i).toNat)
      case atStart => exact ⟨l, a9, c9, 0, Nat.zero_le _, hl12, hwi.out, hR.out, rfl, rfl, ⟨own_mono H9.out.own (by omega), H9.out.lt⟩, LaterC.mk (by (repeat (first | (with_reducible exact Below.refl _ _) | (with_reducible assumption) | (with_reducible refine Later.out _ ?_) | (with_reducible refine bel_alloc ?_ _) | (with_reducible refine bel_drew ?_) | (with_reducible refine bel_drewN ?_ _) | (with_reducible refine bel_set ?_ ?_ _) | (with_reducible refine After.out _ ?_ ?_) | (dsimp only; omega) | omega | (simp only [World.size_alloc, World.size_setCell, World.size_drew]; omega))))⟩
      case round =>
        obtain ⟨T, a5, c5, k, hk, hT12, hTw, hTR, rfl, rfl, hown, z, rfl⟩ := hrel
        have hzz := z.bel.size
        replace hTR := Lib.hid hTR
        replace hTw := Lib.hid hTw
        have HT := Lib.hid hown
        clear hown
        by_cases hlt : k < T.length
        · have hi1 : (k : Int) < (T.length : Int) := by omega
          have hel := Lib.hid (List.length_eraseIdx_of_lt hlt)
          have hle2 : (T.eraseIdx k).length ≤ 12 := by have := hel.out; omega
          have hwe := Lib.hid (within_erase hTw.out k)
          cases hv2 : repG L (T.eraseIdx k)
          · have Y := Lib.hid ((shrinkS_no hlt hv2).symm.trans hTR.out)
            replace hv2 := Lib.hid hv2
            go_wp2_with fail
            with_reducible refine (CL.out T k hlt (by omega) _ _ _ HT.out.cap HT.out.row).mono ?_
            rintro e w' ⟨a4, c4, rfl, hown, y4, rfl⟩
            have hsy4 := y4.bel.size
            (try simp only [World.size_alloc, World.size_setCell, World.size_drew] at hsy4)
            have H4 := Lib.hid (Owns.of hown)
            clear hown
            go_wp2_with fail
            with_reducible refine (CA.out _ _ hv2.out (by omega) _ _ _ (hr.out.bel (by (repeat (first | (with_reducible exact Below.refl _ _) | (with_reducible assumption) | (with_reducible refine Later.out _ ?_) | (with_reducible refine bel_alloc ?_ _) | (with_reducible refine bel_drew ?_) | (with_reducible refine bel_drewN ?_ _) | (with_reducible refine bel_set ?_ ?_ _) | (with_reducible refine After.out _ ?_ ?_) | (dsimp only; omega) | omega | (simp only [World.size_alloc, World.size_setCell, World.size_drew]; omega))))) H4.out.row).mono ?_
            rintro e w' ⟨rfl, y6, rfl⟩
            have hsy6 := y6.bel.size
            (try simp only [World.size_alloc, World.size_setCell, World.size_drew] at hsy6)
            go_wp2_with fail
            go_roundw
            case rel => exact ⟨T, a5, c5, k + 1, by omega, hT12, hTw.out, Y.out, rfl, by go_num, (HT.out.bel (B := z.w.heap.size) (by (repeat (first | (with_reducible exact Below.refl _ _) | (with_reducible assumption) | (with_reducible refine Later.out _ ?_) | (with_reducible refine bel_alloc ?_ _) | (with_reducible refine bel_drew ?_) | (with_reducible refine bel_drewN ?_ _) | (with_reducible refine bel_set ?_ ?_ _) | (with_reducible refine After.out _ ?_ ?_) | (dsimp only; omega) | omega | (simp only [World.size_alloc, World.size_setCell, World.size_drew]; omega)))) (Nat.le_refl _)).wide (by omega), LaterC.mk (by (repeat (first | (with_reducible exact Below.refl _ _) | (with_reducible assumption) | (with_reducible refine Later.out _ ?_) | (with_reducible refine bel_alloc ?_ _) | (with_reducible refine bel_drew ?_) | (with_reducible refine bel_drewN ?_ _) | (with_reducible refine bel_set ?_ ?_ _) | (with_reducible refine After.out _ ?_ ?_) | (dsimp only; omega) | omega | (simp only [World.size_alloc, World.size_setCell, World.size_drew]; omega))))⟩
            case measure => have := hel.out; simp [intOf, sliceLen]; omega
          · have Y := Lib.hid ((shrinkS_yes hlt hv2).symm.trans hTR.out)
            replace hv2 := Lib.hid hv2
            go_wp2_with fail
            with_reducible refine (CL.out T k hlt (by omega) _ _ _ HT.out.cap HT.out.row).mono ?_
            rintro e w' ⟨a4, c4, rfl, hown, y4, rfl⟩
            have hsy4 := y4.bel.size
            (try simp only [World.size_alloc, World.size_setCell, World.size_drew] at hsy4)
            have H4 := Lib.hid (Owns.of hown)
            clear hown
            go_wp2_with fail
            with_reducible refine (CA.out _ _ hv2.out (by omega) _ _ _ (hr.out.bel (by (repeat (first | (with_reducible exact Below.refl _ _) | (with_reducible assumption) | (with_reducible refine Later.out _ ?_) | (with_reducible refine bel_alloc ?_ _) | (with_reducible refine bel_drew ?_) | (with_reducible refine bel_drewN ?_ _) | (with_reducible refine bel_set ?_ ?_ _) | (with_reducible refine After.out _ ?_ ?_) | (dsimp only; omega) | omega | (simp only [World.size_alloc, World.size_setCell, World.size_drew]; omega))))) H4.out.row).mono ?_
            rintro e w' ⟨rfl, y6, rfl⟩
            have hsy6 := y6.bel.size
            (try simp only [World.size_alloc, World.size_setCell, World.size_drew] at hsy6)
            go_wp2_with fail
            go_roundw
            case rel => exact ⟨T.eraseIdx k, a4, c4, k, by have := hel.out; omega, hle2, hwe.out, Y.out, rfl, rfl, ⟨own_mono (H4.out.bel (B := y4.w.heap.size) (by (repeat (first | (with_reducible exact Below.refl _ _) | (with_reducible assumption) | (with_reducible refine Later.out _ ?_) | (with_reducible refine bel_alloc ?_ _) | (with_reducible refine bel_drew ?_) | (with_reducible refine bel_drewN ?_ _) | (with_reducible refine bel_set ?_ ?_ _) | (with_reducible refine After.out _ ?_ ?_) | (dsimp only; omega) | omega | (simp only [World.size_alloc, World.size_setCell, World.size_drew]; omega)))) (Nat.le_refl _)).own (by omega), ((H4.out.bel (B := y4.w.heap.size) (by (repeat (first | (with_reducible exact Below.refl _ _) | (with_reducible assumption) | (with_reducible refine Later.out _ ?_) | (with_reducible refine bel_alloc ?_ _) | (with_reducible refine bel_drew ?_) | (with_reducible refine bel_drewN ?_ _) | (with_reducible refine bel_set ?_ ?_ _) | (with_reducible refine After.out _ ?_ ?_) | (dsimp only; omega) | omega | (simp only [World.size_alloc, World.size_setCell, World.size_drew]; omega)))) (Nat.le_refl _)).wide (by omega)).lt⟩, LaterC.mk (by (repeat (first | (with_reducible exact Below.refl _ _) | (with_reducible assumption) | (with_reducible refine Later.out _ ?_) | (with_reducible refine bel_alloc ?_ _) | (with_reducible refine bel_drew ?_) | (with_reducible refine bel_drewN ?_ _) | (with_reducible refine bel_set ?_ ?_ _) | (with_reducible refine After.out _ ?_ ?_) | (dsimp only; omega) | omega | (simp only [World.size_alloc, World.size_setCell, World.size_drew]; omega))))⟩
            case measure => have := hel.out; simp [intOf, sliceLen]; omega
        · obtain rfl : k = T.length := by omega
          have Y := Lib.hid ((shrinkS_end (Nat.le_refl _)).symm.trans hTR.out)
          go_wp2_with fail
          refine bodyPost_ret (by simp [results, Tryz.results28, go_sem, ↓IntWalk.iteOmega, *]; try rfl) rfl ?_
          rw [← Y.out]
          refine RetOwn.mk _ rfl HT.out.own ?_
          (repeat (first | (with_reducible exact Below.refl _ _) | (with_reducible assumption) | (with_reducible refine Later.out _ ?_) | (with_reducible refine bel_alloc ?_ _) | (with_reducible refine bel_drew ?_) | (with_reducible refine bel_drewN ?_ _) | (with_reducible refine bel_set ?_ ?_ _) | (with_reducible refine After.out _ ?_ ?_) | (dsimp only; omega) | omega | (simp only [World.size_alloc, World.size_setCell, World.size_drew]; omega)))
  · rw [show shrR L l = [] by simp [shrR, h], show shrK L l = codeZ L l by simp [shrK, h]]
    generalize codeZ L l = k at C1 h
    have hk : (k == 0) = false := by simpa using h
    have hk' : (k != 0) = true := by simpa using h
    replace C1 := Lib.hid C1
    clear ok hr hr' hs hx
    go_enter Tryz.func28, Tryz.ntmps28
    go_wp2_with fail
    with_reducible refine (C1.out).mono ?_
    rintro e w' ⟨rfl, y1, rfl⟩
    have hsy1 := y1.bel.size
    (try simp only [World.size_alloc, World.size_setCell, World.size_drew] at hsy1)
    go_wp2_with fail
    refine bodyPost_ret (by simp [results, Tryz.results28, go_sem, ↓IntWalk.iteOmega, *]; try rfl) rfl ?_
    refine RetOwn.mk (.slice none 0 0) rfl (World.ownsRow_nil _ _ _ _) ?_
    (repeat (first | (with_reducible exact Below.refl _ _) | (with_reducible assumption) | (with_reducible refine Later.out _ ?_) | (with_reducible refine bel_alloc ?_ _) | (with_reducible refine bel_drew ?_) | (with_reducible refine bel_drewN ?_ _) | (with_reducible refine bel_set ?_ ?_ _) | (with_reducible refine After.out _ ?_ ?_) | (dsimp only; omega) | omega | (simp only [World.size_alloc, World.size_setCell, World.size_drew]; omega)))
set_option maxRecDepth 8000 in
set_option maxHeartbeats 4000000 in
theorem shr_spec (hs : Shp a' n' c') : Calls Tryz.prog 27 #[.slice a n c, .slice a' n' c'] w (RetOwn w 2 1 (shrR L l).length (intCells (shrR L l)) fun v => .tuple #[v, .int .i64 (shrK L l)]) := by
  have C1 := sCode_any L l a a' n c n' c' w hn hn' hm hm' hr hr' ok
  by_cases h : codeZ L l = 0
  · have hcl := code_claims h
    have hri := code_rises h
    have hwi := within_of_rises hri
    have h12 := len_of_claims hcl
    have hll := rises_len hri
    have hv := named_of fun c hc => claim_of_claims hcl hc
    subst hn hn'
    rw [h] at C1
    have CA := Lib.hid (fun (T : List Int) (b : Bool) (hb : repG L T = b) (hl : T.length ≤ 1000) a' c' (w : World) hr hr' => sRepair_b L T a a' L.length c T.length c' w rfl rfl hm (by omega) hr hr' hv hb)
    have CL := Lib.hid (fun (T : List Int) (i : Nat) (hi : i < T.length) (hl : T.length ≤ 1000) a' c' (w : World) hc hr => sWithout_any T i a' T.length c' w rfl hi hl hc hr)
    have CC := Lib.hid (fun (w : World) hr => sOwn_any l a' l.length c' w rfl (by omega) hr)
    replace C1 := Lib.hid C1
    replace hr := Lib.hid hr
    replace hr' := Lib.hid hr'
    replace hwi := Lib.hid hwi
    have hl12 : l.length ≤ 12 := by omega
    clear ok hcl hri hs hv
    cases hg : repG L l
    · rw [show shrR L l = [] by simp [shrR, h, hg], show shrK L l = 5 by simp [shrK, h, hg]]
      replace hg := Lib.hid hg
      clear h
      go_enter Tryz.func27, Tryz.ntmps27
      go_wp2_with fail
      with_reducible refine (C1.out).mono ?_
      rintro e w' ⟨rfl, y1, rfl⟩
      have hsy1 := y1.bel.size
      (try simp only [World.size_alloc, World.size_setCell, World.size_drew] at hsy1)
      go_wp2_with fail
      with_reducible refine (CA.out l _ hg.out (by omega) _ _ _ (hr.out.bel (by (repeat (first | (with_reducible exact Below.refl _ _) | (with_reducible assumption) | (with_reducible refine Later.out _ ?_) | (with_reducible refine bel_alloc ?_ _) | (with_reducible refine bel_drew ?_) | (with_reducible refine bel_drewN ?_ _) | (with_reducible refine bel_set ?_ ?_ _) | (with_reducible refine After.out _ ?_ ?_) | (dsimp only; omega) | omega | (simp only [World.size_alloc, World.size_setCell, World.size_drew]; omega))))) (hr'.out.bel (by (repeat (first | (with_reducible exact Below.refl _ _) | (with_reducible assumption) | (with_reducible refine Later.out _ ?_) | (with_reducible refine bel_alloc ?_ _) | (with_reducible refine bel_drew ?_) | (with_reducible refine bel_drewN ?_ _) | (with_reducible refine bel_set ?_ ?_ _) | (with_reducible refine After.out _ ?_ ?_) | (dsimp only; omega) | omega | (simp only [World.size_alloc, World.size_setCell, World.size_drew]; omega)))))).mono ?_
      rintro e w' ⟨rfl, y2, rfl⟩
      have hsy2 := y2.bel.size
      (try simp only [World.size_alloc, World.size_setCell, World.size_drew] at hsy2)
      go_wp2_with fail
      refine bodyPost_ret (by simp [results, Tryz.results27, go_sem, ↓IntWalk.iteOmega, *]; try rfl) rfl ?_
      refine RetOwn.mk (.slice none 0 0) rfl (World.ownsRow_nil _ _ _ _) ?_
      (repeat (first | (with_reducible exact Below.refl _ _) | (with_reducible assumption) | (with_reducible refine Later.out _ ?_) | (with_reducible refine bel_alloc ?_ _) | (with_reducible refine bel_drew ?_) | (with_reducible refine bel_drewN ?_ _) | (with_reducible refine bel_set ?_ ?_ _) | (with_reducible refine After.out _ ?_ ?_) | (dsimp only; omega) | omega | (simp only [World.size_alloc, World.size_setCell, World.size_drew]; omega)))
    · obtain ⟨R, hR⟩ : ∃ R, shrinkS (repG L) l 0 = R := ⟨_, rfl⟩
      rw [show shrR L l = R by simp [shrR, h, hg, hR], show shrK L l = 0 by simp [shrK, h, hg]]
      replace hR := Lib.hid hR
      replace hg := Lib.hid hg
      clear h
      go_enter Tryz.func27, Tryz.ntmps27
      go_wp2_with fail
      with_reducible refine (C1.out).mono ?_
      rintro e w' ⟨rfl, y1, rfl⟩
      have hsy1 := y1.bel.size
      (try simp only [World.size_alloc, World.size_setCell, World.size_drew] at hsy1)
      go_wp2_with fail
      with_reducible refine (CA.out l _ hg.out (by omega) _ _ _ (hr.out.bel (by (repeat (first | (with_reducible exact Below.refl _ _) | (with_reducible assumption) | (with_reducible refine Later.out _ ?_) | (with_reducible refine bel_alloc ?_ _) | (with_reducible refine bel_drew ?_) | (with_reducible refine bel_drewN ?_ _) | (with_reducible refine bel_set ?_ ?_ _) | (with_reducible refine After.out _ ?_ ?_) | (dsimp only; omega) | omega | (simp only [World.size_alloc, World.size_setCell, World.size_drew]; omega))))) (hr'.out.bel (by (repeat (first | (with_reducible exact Below.refl _ _) | (with_reducible assumption) | (with_reducible refine Later.out _ ?_) | (with_reducible refine bel_alloc ?_ _) | (with_reducible refine bel_drew ?_) | (with_reducible refine bel_drewN ?_ _) | (with_reducible refine bel_set ?_ ?_ _) | (with_reducible refine After.out _ ?_ ?_) | (dsimp only; omega) | omega | (simp only [World.size_alloc, World.size_setCell, World.size_drew]; omega)))))).mono ?_
      rintro e w' ⟨rfl, y2, rfl⟩
      have hsy2 := y2.bel.size
      (try simp only [World.size_alloc, World.size_setCell, World.size_drew] at hsy2)
      go_wp2_with fail
      with_reducible refine (CC.out _ (hr'.out.bel (by (repeat (first | (with_reducible exact Below.refl _ _) | (with_reducible assumption) | (with_reducible refine Later.out _ ?_) | (with_reducible refine bel_alloc ?_ _) | (with_reducible refine bel_drew ?_) | (with_reducible refine bel_drewN ?_ _) | (with_reducible refine bel_set ?_ ?_ _) | (with_reducible refine After.out _ ?_ ?_) | (dsimp only; omega) | omega | (simp only [World.size_alloc, World.size_setCell, World.size_drew]; omega)))))).mono ?_
      rintro e w' ⟨a9, c9, rfl, hown, y9, rfl⟩
      have hsy9 := y9.bel.size
      (try simp only [World.size_alloc, World.size_setCell, World.size_drew] at hsy9)
      have H9 := Lib.hid (Owns.of hown)
      clear hown
      go_wp2_with fail
      go_loopw [7, 8] (fun o i wr => ∃ (T : List Int) (a5 : Option Addr) (c5 k : Nat), k ≤ T.length ∧ T.length ≤ 12 ∧ Within L.length T ∧ shrinkS (repG L) T k = R ∧ o = .slice a5 T.length c5 ∧ i = .int .i64 k ∧ Owns wr w.heap.size wr.heap.size 2 1 T.length a5 c5 (intCells T) ∧ ∃ z : Later w, wr = z.w) (fun o i _ => sliceLen o - (intOf i).toNat)
      case atStart => exact ⟨l, a9, c9, 0, Nat.zero_le _, hl12, hwi.out, hR.out, rfl, rfl, ⟨own_mono H9.out.own (by omega), H9.out.lt⟩, LaterC.mk (by (repeat (first | (with_reducible exact Below.refl _ _) | (with_reducible assumption) | (with_reducible refine Later.out _ ?_) | (with_reducible refine bel_alloc ?_ _) | (with_reducible refine bel_drew ?_) | (with_reducible refine bel_drewN ?_ _) | (with_reducible refine bel_set ?_ ?_ _) | (with_reducible refine After.out _ ?_ ?_) | (dsimp only; omega) | omega | (simp only [World.size_alloc, World.size_setCell, World.size_drew]; omega))))⟩
      case round =>
        obtain ⟨T, a5, c5, k, hk, hT12, hTw, hTR, rfl, rfl, hown, z, rfl⟩ := hrel
        have hzz := z.bel.size
        replace hTR := Lib.hid hTR
        replace hTw := Lib.hid hTw
        have HT := Lib.hid hown
        clear hown
        by_cases hlt : k < T.length
        · have hi1 : (k : Int) < (T.length : Int) := by omega
          have hel := Lib.hid (List.length_eraseIdx_of_lt hlt)
          have hle2 : (T.eraseIdx k).length ≤ 12 := by have := hel.out; omega
          have hwe := Lib.hid (within_erase hTw.out k)
          cases hv2 : repG L (T.eraseIdx k)
          · have Y := Lib.hid ((shrinkS_no hlt hv2).symm.trans hTR.out)
            replace hv2 := Lib.hid hv2
            go_wp2_with fail
            with_reducible refine (CL.out T k hlt (by omega) _ _ _ HT.out.cap HT.out.row).mono ?_
            rintro e w' ⟨a4, c4, rfl, hown, y4, rfl⟩
            have hsy4 := y4.bel.size
            (try simp only [World.size_alloc, World.size_setCell, World.size_drew] at hsy4)
            have H4 := Lib.hid (Owns.of hown)
            clear hown
            go_wp2_with fail
            with_reducible refine (CA.out _ _ hv2.out (by omega) _ _ _ (hr.out.bel (by (repeat (first | (with_reducible exact Below.refl _ _) | (with_reducible assumption) | (with_reducible refine Later.out _ ?_) | (with_reducible refine bel_alloc ?_ _) | (with_reducible refine bel_drew ?_) | (with_reducible refine bel_drewN ?_ _) | (with_reducible refine bel_set ?_ ?_ _) | (with_reducible refine After.out _ ?_ ?_) | (dsimp only; omega) | omega | (simp only [World.size_alloc, World.size_setCell, World.size_drew]; omega))))) H4.out.row).mono ?_
            rintro e w' ⟨rfl, y6, rfl⟩
            have hsy6 := y6.bel.size
            (try simp only [World.size_alloc, World.size_setCell, World.size_drew] at hsy6)
            go_wp2_with fail
            go_roundw
            case rel => exact ⟨T, a5, c5, k + 1, by omega, hT12, hTw.out, Y.out, rfl, by go_num, (HT.out.bel (B := z.w.heap.size) (by (repeat (first | (with_reducible exact Below.refl _ _) | (with_reducible assumption) | (with_reducible refine Later.out _ ?_) | (with_reducible refine bel_alloc ?_ _) | (with_reducible refine bel_drew ?_) | (with_reducible refine bel_drewN ?_ _) | (with_reducible refine bel_set ?_ ?_ _) | (with_reducible refine After.out _ ?_ ?_) | (dsimp only; omega) | omega | (simp only [World.size_alloc, World.size_setCell, World.size_drew]; omega)))) (Nat.le_refl _)).wide (by omega), LaterC.mk (by (repeat (first | (with_reducible exact Below.refl _ _) | (with_reducible assumption) | (with_reducible refine Later.out _ ?_) | (with_reducible refine bel_alloc ?_ _) | (with_reducible refine bel_drew ?_) | (with_reducible refine bel_drewN ?_ _) | (with_reducible refine bel_set ?_ ?_ _) | (with_reducible refine After.out _ ?_ ?_) | (dsimp only; omega) | omega | (simp only [World.size_alloc, World.size_setCell, World.size_drew]; omega))))⟩
            case measure => have := hel.out; simp [intOf, sliceLen]; omega
          · have Y := Lib.hid ((shrinkS_yes hlt hv2).symm.trans hTR.out)
            replace hv2 := Lib.hid hv2
            go_wp2_with fail
            with_reducible refine (CL.out T k hlt (by omega) _ _ _ HT.out.cap HT.out.row).mono ?_
            rintro e w' ⟨a4, c4, rfl, hown, y4, rfl⟩
            have hsy4 := y4.bel.size
            (try simp only [World.size_alloc, World.size_setCell, World.size_drew] at hsy4)
            have H4 := Lib.hid (Owns.of hown)
            clear hown
            go_wp2_with fail
            with_reducible refine (CA.out _ _ hv2.out (by omega) _ _ _ (hr.out.bel (by (repeat (first | (with_reducible exact Below.refl _ _) | (with_reducible assumption) | (with_reducible refine Later.out _ ?_) | (with_reducible refine bel_alloc ?_ _) | (with_reducible refine bel_drew ?_) | (with_reducible refine bel_drewN ?_ _) | (with_reducible refine bel_set ?_ ?_ _) | (with_reducible refine After.out _ ?_ ?_) | (dsimp only; omega) | omega | (simp only [World.size_alloc, World.size_setCell, World.size_drew]; omega))))) H4.out.row).mono ?_
            rintro e w' ⟨rfl, y6, rfl⟩
            have hsy6 := y6.bel.size
            (try simp only [World.size_alloc, World.size_setCell, World.size_drew] at hsy6)
            go_wp2_with fail
            go_roundw
            case rel => exact ⟨T.eraseIdx k, a4, c4, k, by have := hel.out; omega, hle2, hwe.out, Y.out, rfl, rfl, ⟨own_mono (H4.out.bel (B := y4.w.heap.size) (by (repeat (first | (with_reducible exact Below.refl _ _) | (with_reducible assumption) | (with_reducible refine Later.out _ ?_) | (with_reducible refine bel_alloc ?_ _) | (with_reducible refine bel_drew ?_) | (with_reducible refine bel_drewN ?_ _) | (with_reducible refine bel_set ?_ ?_ _) | (with_reducible refine After.out _ ?_ ?_) | (dsimp only; omega) | omega | (simp only [World.size_alloc, World.size_setCell, World.size_drew]; omega)))) (Nat.le_refl _)).own (by omega), ((H4.out.bel (B := y4.w.heap.size) (by (repeat (first | (with_reducible exact Below.refl _ _) | (with_reducible assumption) | (with_reducible refine Later.out _ ?_) | (with_reducible refine bel_alloc ?_ _) | (with_reducible refine bel_drew ?_) | (with_reducible refine bel_drewN ?_ _) | (with_reducible refine bel_set ?_ ?_ _) | (with_reducible refine After.out _ ?_ ?_) | (dsimp only; omega) | omega | (simp only [World.size_alloc, World.size_setCell, World.size_drew]; omega)))) (Nat.le_refl _)).wide (by omega)).lt⟩, LaterC.mk (by (repeat (first | (with_reducible exact Below.refl _ _) | (with_reducible assumption) | (with_reducible refine Later.out _ ?_) | (with_reducible refine bel_alloc ?_ _) | (with_reducible refine bel_drew ?_) | (with_reducible refine bel_drewN ?_ _) | (with_reducible refine bel_set ?_ ?_ _) | (with_reducible refine After.out _ ?_ ?_) | (dsimp only; omega) | omega | (simp only [World.size_alloc, World.size_setCell, World.size_drew]; omega))))⟩
            case measure => have := hel.out; simp [intOf, sliceLen]; omega
        · obtain rfl : k = T.length := by omega
          have Y := Lib.hid ((shrinkS_end (Nat.le_refl _)).symm.trans hTR.out)
          go_wp2_with fail
          refine bodyPost_ret (by simp [results, Tryz.results27, go_sem, ↓IntWalk.iteOmega, *]; try rfl) rfl ?_
          rw [← Y.out]
          refine RetOwn.mk _ rfl HT.out.own ?_
          (repeat (first | (with_reducible exact Below.refl _ _) | (with_reducible assumption) | (with_reducible refine Later.out _ ?_) | (with_reducible refine bel_alloc ?_ _) | (with_reducible refine bel_drew ?_) | (with_reducible refine bel_drewN ?_ _) | (with_reducible refine bel_set ?_ ?_ _) | (with_reducible refine After.out _ ?_ ?_) | (dsimp only; omega) | omega | (simp only [World.size_alloc, World.size_setCell, World.size_drew]; omega)))
  · rw [show shrR L l = [] by simp [shrR, h], show shrK L l = codeZ L l by simp [shrK, h]]
    generalize codeZ L l = k at C1 h
    have hk : (k == 0) = false := by simpa using h
    have hk' : (k != 0) = true := by simpa using h
    replace C1 := Lib.hid C1
    clear ok hr hr' hs
    go_enter Tryz.func27, Tryz.ntmps27
    go_wp2_with fail
    with_reducible refine (C1.out).mono ?_
    rintro e w' ⟨rfl, y1, rfl⟩
    have hsy1 := y1.bel.size
    (try simp only [World.size_alloc, World.size_setCell, World.size_drew] at hsy1)
    go_wp2_with fail
    refine bodyPost_ret (by simp [results, Tryz.results27, go_sem, ↓IntWalk.iteOmega, *]; try rfl) rfl ?_
    refine RetOwn.mk (.slice none 0 0) rfl (World.ownsRow_nil _ _ _ _) ?_
    (repeat (first | (with_reducible exact Below.refl _ _) | (with_reducible assumption) | (with_reducible refine Later.out _ ?_) | (with_reducible refine bel_alloc ?_ _) | (with_reducible refine bel_drew ?_) | (with_reducible refine bel_drewN ?_ _) | (with_reducible refine bel_set ?_ ?_ _) | (with_reducible refine After.out _ ?_ ?_) | (dsimp only; omega) | omega | (simp only [World.size_alloc, World.size_setCell, World.size_drew]; omega)))
end
noncomputable def witR (L : List Clm) (l : List Int) : List Int := if codeZ L l = 0 then (if coreG L l then shrinkS (coreG L) l 0 else []) else []
noncomputable def witK (L : List Clm) (l : List Int) : Int := if codeZ L l = 0 then (if coreG L l then 0 else 4) else codeZ L l
theorem witR_len (L : List Clm) (l : List Int) {n : Nat} (hn : L.length = n) (hm : n ≤ 1048576) : (witR L l).length ≤ 1048576 := by
  unfold witR
  split
  · rename_i h
    have h12 := len_of_claims (code_claims h)
    have hll := rises_len (code_rises h)
    split
    · have := shrinkL_le (coreG L) (l.length - 0) l 0
      unfold shrinkS
      omega
    · simp
  · simp
section
variable (L : List Clm) (l : List Int) (a : Option Addr) (n c : Nat) (a' : Option Addr) (n' c' : Nat) (w : World) (hn : L.length = n) (hm : n ≤ 1048576) (hn' : l.length = n') (hm' : n' ≤ 1048576) (hr : Row w a (clmsCells L)) (hr' : Row w a' (intCells l)) (ok : ∀ c ∈ L, ClmOk c)
include hn hn' hm hm' hr hr' ok
set_option maxRecDepth 8000 in
set_option maxHeartbeats 4000000 in
theorem wit_impl (hs : Shp a' n' c') (hx : Max w) : Calls Tryz.prog 23 #[.slice a n c, .slice a' n' c'] w (RetOwn w 2 1 (witR L l).length (intCells (witR L l)) fun v => .tuple #[v, .int .i64 (witK L l)]) := by
  have C1 := chosenCode_any L l a a' n c n' c' w hn hn' hm hm' hr hr' ok hx
  by_cases h : codeZ L l = 0
  · have hcl := code_claims h
    have hri := code_rises h
    have hwi := within_of_rises hri
    have h12 := len_of_claims hcl
    have hll := rises_len hri
    subst hn hn'
    rw [h] at C1
    have CH := Lib.hid (fun (T : List Int) (hT : Within L.length T) (hl : T.length ≤ 1000) a' c' (w : World) hr hr' => chosen_any L T a a' L.length c T.length c' w rfl rfl hm (by omega) hr hr' hT)
    have CA := Lib.hid (fun (T : List Int) (b : Bool) (hb : coreG L T = b) (hl : T.length ≤ 1000) a c (w : World) hc hr => areConsistent_b (L := pick L T) (a := a) (c := c) (w := w) (n := (pick L T).length) (b := !b) rfl (by have := pick_le L T; omega) hc hr (coreG_b hb))
    have CL := Lib.hid (fun (T : List Int) (i : Nat) (hi : i < T.length) (hl : T.length ≤ 1000) a' c' (w : World) hc hr => lacking_any T i a' T.length c' w rfl hi hl hc hr)
    have CC := Lib.hid (fun (w : World) hr => cloneInt_any l a' l.length c' w rfl hm' hs hr)
    replace C1 := Lib.hid C1
    replace hr := Lib.hid hr
    replace hr' := Lib.hid hr'
    replace hwi := Lib.hid hwi
    have hl12 : l.length ≤ 12 := by omega
    clear ok hcl hri hs hx
    cases hg : coreG L l
    · rw [show witR L l = [] by simp [witR, h, hg], show witK L l = 4 by simp [witK, h, hg]]
      replace hg := Lib.hid hg
      clear h
      go_enter Tryz.func23, Tryz.ntmps23
      go_wp2_with fail
      with_reducible refine (C1.out).mono ?_
      rintro e w' ⟨rfl, y1, rfl⟩
      have hsy1 := y1.bel.size
      (try simp only [World.size_alloc, World.size_setCell, World.size_drew] at hsy1)
      go_wp2_with fail
      with_reducible refine (CH.out l hwi.out (by omega) _ _ _ (hr.out.bel (by (repeat (first | (with_reducible exact Below.refl _ _) | (with_reducible assumption) | (with_reducible refine Later.out _ ?_) | (with_reducible refine bel_alloc ?_ _) | (with_reducible refine bel_drew ?_) | (with_reducible refine bel_drewN ?_ _) | (with_reducible refine bel_set ?_ ?_ _) | (with_reducible refine After.out _ ?_ ?_) | (dsimp only; omega) | omega | (simp only [World.size_alloc, World.size_setCell, World.size_drew]; omega))))) (hr'.out.bel (by (repeat (first | (with_reducible exact Below.refl _ _) | (with_reducible assumption) | (with_reducible refine Later.out _ ?_) | (with_reducible refine bel_alloc ?_ _) | (with_reducible refine bel_drew ?_) | (with_reducible refine bel_drewN ?_ _) | (with_reducible refine bel_set ?_ ?_ _) | (with_reducible refine After.out _ ?_ ?_) | (dsimp only; omega) | omega | (simp only [World.size_alloc, World.size_setCell, World.size_drew]; omega)))))).mono ?_
      rintro e w' ⟨a2, c2, rfl, hown, y2, rfl⟩
      have hsy2 := y2.bel.size
      (try simp only [World.size_alloc, World.size_setCell, World.size_drew] at hsy2)
      have H2 := Lib.hid (Owns.of hown)
      clear hown
      go_wp2_with fail
      with_reducible refine (CA.out l _ hg.out (by omega) _ _ _ H2.out.cap H2.out.row).mono ?_
      rintro e w' ⟨rfl, y3, rfl⟩
      have hsy3 := y3.bel.size
      (try simp only [World.size_alloc, World.size_setCell, World.size_drew] at hsy3)
      go_wp2_with fail
      refine bodyPost_ret (by simp [results, Tryz.results23, go_sem, ↓IntWalk.iteOmega, *]; try rfl) rfl ?_
      refine RetOwn.mk (.slice none 0 0) rfl (World.ownsRow_nil _ _ _ _) ?_
      (repeat (first | (with_reducible exact Below.refl _ _) | (with_reducible assumption) | (with_reducible refine Later.out _ ?_) | (with_reducible refine bel_alloc ?_ _) | (with_reducible refine bel_drew ?_) | (with_reducible refine bel_drewN ?_ _) | (with_reducible refine bel_set ?_ ?_ _) | (with_reducible refine After.out _ ?_ ?_) | (dsimp only; omega) | omega | (simp only [World.size_alloc, World.size_setCell, World.size_drew]; omega)))
    · obtain ⟨R, hR⟩ : ∃ R, shrinkS (coreG L) l 0 = R := ⟨_, rfl⟩
      rw [show witR L l = R by simp [witR, h, hg, hR], show witK L l = 0 by simp [witK, h, hg]]
      replace hR := Lib.hid hR
      replace hg := Lib.hid hg
      clear h
      go_enter Tryz.func23, Tryz.ntmps23
      go_wp2_with fail
      with_reducible refine (C1.out).mono ?_
      rintro e w' ⟨rfl, y1, rfl⟩
      have hsy1 := y1.bel.size
      (try simp only [World.size_alloc, World.size_setCell, World.size_drew] at hsy1)
      go_wp2_with fail
      with_reducible refine (CH.out l hwi.out (by omega) _ _ _ (hr.out.bel (by (repeat (first | (with_reducible exact Below.refl _ _) | (with_reducible assumption) | (with_reducible refine Later.out _ ?_) | (with_reducible refine bel_alloc ?_ _) | (with_reducible refine bel_drew ?_) | (with_reducible refine bel_drewN ?_ _) | (with_reducible refine bel_set ?_ ?_ _) | (with_reducible refine After.out _ ?_ ?_) | (dsimp only; omega) | omega | (simp only [World.size_alloc, World.size_setCell, World.size_drew]; omega))))) (hr'.out.bel (by (repeat (first | (with_reducible exact Below.refl _ _) | (with_reducible assumption) | (with_reducible refine Later.out _ ?_) | (with_reducible refine bel_alloc ?_ _) | (with_reducible refine bel_drew ?_) | (with_reducible refine bel_drewN ?_ _) | (with_reducible refine bel_set ?_ ?_ _) | (with_reducible refine After.out _ ?_ ?_) | (dsimp only; omega) | omega | (simp only [World.size_alloc, World.size_setCell, World.size_drew]; omega)))))).mono ?_
      rintro e w' ⟨a2, c2, rfl, hown, y2, rfl⟩
      have hsy2 := y2.bel.size
      (try simp only [World.size_alloc, World.size_setCell, World.size_drew] at hsy2)
      have H2 := Lib.hid (Owns.of hown)
      clear hown
      go_wp2_with fail
      with_reducible refine (CA.out l _ hg.out (by omega) _ _ _ H2.out.cap H2.out.row).mono ?_
      rintro e w' ⟨rfl, y3, rfl⟩
      have hsy3 := y3.bel.size
      (try simp only [World.size_alloc, World.size_setCell, World.size_drew] at hsy3)
      go_wp2_with fail
      with_reducible refine (CC.out _ (hr'.out.bel (by (repeat (first | (with_reducible exact Below.refl _ _) | (with_reducible assumption) | (with_reducible refine Later.out _ ?_) | (with_reducible refine bel_alloc ?_ _) | (with_reducible refine bel_drew ?_) | (with_reducible refine bel_drewN ?_ _) | (with_reducible refine bel_set ?_ ?_ _) | (with_reducible refine After.out _ ?_ ?_) | (dsimp only; omega) | omega | (simp only [World.size_alloc, World.size_setCell, World.size_drew]; omega)))))).mono ?_
      rintro e w' ⟨a9, c9, rfl, hown, y9, rfl⟩
      have hsy9 := y9.bel.size
      (try simp only [World.size_alloc, World.size_setCell, World.size_drew] at hsy9)
      have H9 := Lib.hid (Owns.of hown)
      clear hown
      go_wp2_with fail
      go_loopw [7, 8] (fun o i wr => ∃ (T : List Int) (a5 : Option Addr) (c5 k : Nat), k ≤ T.length ∧ T.length ≤ 12 ∧ Within L.length T ∧ shrinkS (coreG L) T k = R ∧ o = .slice a5 T.length c5 ∧ i = .int .i64 k ∧ Owns wr w.heap.size wr.heap.size 2 1 T.length a5 c5 (intCells T) ∧ ∃ z : Later w, wr = z.w) (fun o i _ => sliceLen o - (intOf i).toNat)
      case atStart => exact ⟨l, a9, c9, 0, Nat.zero_le _, hl12, hwi.out, hR.out, rfl, rfl, ⟨own_mono H9.out.own (by omega), H9.out.lt⟩, LaterC.mk (by (repeat (first | (with_reducible exact Below.refl _ _) | (with_reducible assumption) | (with_reducible refine Later.out _ ?_) | (with_reducible refine bel_alloc ?_ _) | (with_reducible refine bel_drew ?_) | (with_reducible refine bel_drewN ?_ _) | (with_reducible refine bel_set ?_ ?_ _) | (with_reducible refine After.out _ ?_ ?_) | (dsimp only; omega) | omega | (simp only [World.size_alloc, World.size_setCell, World.size_drew]; omega))))⟩
      case round =>
        obtain ⟨T, a5, c5, k, hk, hT12, hTw, hTR, rfl, rfl, hown, z, rfl⟩ := hrel
        have hzz := z.bel.size
        replace hTR := Lib.hid hTR
        replace hTw := Lib.hid hTw
        have HT := Lib.hid hown
        clear hown
        by_cases hlt : k < T.length
        · have hi1 : (k : Int) < (T.length : Int) := by omega
          have hel := Lib.hid (List.length_eraseIdx_of_lt hlt)
          have hle2 : (T.eraseIdx k).length ≤ 12 := by have := hel.out; omega
          have hwe := Lib.hid (within_erase hTw.out k)
          cases hv2 : coreG L (T.eraseIdx k)
          · have Y := Lib.hid ((shrinkS_no hlt hv2).symm.trans hTR.out)
            replace hv2 := Lib.hid hv2
            go_wp2_with fail
            with_reducible refine (CL.out T k hlt (by omega) _ _ _ HT.out.cap HT.out.row).mono ?_
            rintro e w' ⟨a4, c4, rfl, hown, y4, rfl⟩
            have hsy4 := y4.bel.size
            (try simp only [World.size_alloc, World.size_setCell, World.size_drew] at hsy4)
            have H4 := Lib.hid (Owns.of hown)
            clear hown
            go_wp2_with fail
            with_reducible refine (CH.out _ hwe.out (by omega) _ _ _ (hr.out.bel (by (repeat (first | (with_reducible exact Below.refl _ _) | (with_reducible assumption) | (with_reducible refine Later.out _ ?_) | (with_reducible refine bel_alloc ?_ _) | (with_reducible refine bel_drew ?_) | (with_reducible refine bel_drewN ?_ _) | (with_reducible refine bel_set ?_ ?_ _) | (with_reducible refine After.out _ ?_ ?_) | (dsimp only; omega) | omega | (simp only [World.size_alloc, World.size_setCell, World.size_drew]; omega))))) H4.out.row).mono ?_
            rintro e w' ⟨a6, c6, rfl, hown, y6, rfl⟩
            have hsy6 := y6.bel.size
            (try simp only [World.size_alloc, World.size_setCell, World.size_drew] at hsy6)
            have H6 := Lib.hid (Owns.of hown)
            clear hown
            go_wp2_with fail
            with_reducible refine (CA.out _ _ hv2.out (by omega) _ _ _ H6.out.cap H6.out.row).mono ?_
            rintro e w' ⟨rfl, y7, rfl⟩
            have hsy7 := y7.bel.size
            (try simp only [World.size_alloc, World.size_setCell, World.size_drew] at hsy7)
            go_wp2_with fail
            go_roundw
            case rel => exact ⟨T, a5, c5, k + 1, by omega, hT12, hTw.out, Y.out, rfl, by go_num, (HT.out.bel (B := z.w.heap.size) (by (repeat (first | (with_reducible exact Below.refl _ _) | (with_reducible assumption) | (with_reducible refine Later.out _ ?_) | (with_reducible refine bel_alloc ?_ _) | (with_reducible refine bel_drew ?_) | (with_reducible refine bel_drewN ?_ _) | (with_reducible refine bel_set ?_ ?_ _) | (with_reducible refine After.out _ ?_ ?_) | (dsimp only; omega) | omega | (simp only [World.size_alloc, World.size_setCell, World.size_drew]; omega)))) (Nat.le_refl _)).wide (by omega), LaterC.mk (by (repeat (first | (with_reducible exact Below.refl _ _) | (with_reducible assumption) | (with_reducible refine Later.out _ ?_) | (with_reducible refine bel_alloc ?_ _) | (with_reducible refine bel_drew ?_) | (with_reducible refine bel_drewN ?_ _) | (with_reducible refine bel_set ?_ ?_ _) | (with_reducible refine After.out _ ?_ ?_) | (dsimp only; omega) | omega | (simp only [World.size_alloc, World.size_setCell, World.size_drew]; omega))))⟩
            case measure => have := hel.out; simp [intOf, sliceLen]; omega
          · have Y := Lib.hid ((shrinkS_yes hlt hv2).symm.trans hTR.out)
            replace hv2 := Lib.hid hv2
            go_wp2_with fail
            with_reducible refine (CL.out T k hlt (by omega) _ _ _ HT.out.cap HT.out.row).mono ?_
            rintro e w' ⟨a4, c4, rfl, hown, y4, rfl⟩
            have hsy4 := y4.bel.size
            (try simp only [World.size_alloc, World.size_setCell, World.size_drew] at hsy4)
            have H4 := Lib.hid (Owns.of hown)
            clear hown
            go_wp2_with fail
            with_reducible refine (CH.out _ hwe.out (by omega) _ _ _ (hr.out.bel (by (repeat (first | (with_reducible exact Below.refl _ _) | (with_reducible assumption) | (with_reducible refine Later.out _ ?_) | (with_reducible refine bel_alloc ?_ _) | (with_reducible refine bel_drew ?_) | (with_reducible refine bel_drewN ?_ _) | (with_reducible refine bel_set ?_ ?_ _) | (with_reducible refine After.out _ ?_ ?_) | (dsimp only; omega) | omega | (simp only [World.size_alloc, World.size_setCell, World.size_drew]; omega))))) H4.out.row).mono ?_
            rintro e w' ⟨a6, c6, rfl, hown, y6, rfl⟩
            have hsy6 := y6.bel.size
            (try simp only [World.size_alloc, World.size_setCell, World.size_drew] at hsy6)
            have H6 := Lib.hid (Owns.of hown)
            clear hown
            go_wp2_with fail
            with_reducible refine (CA.out _ _ hv2.out (by omega) _ _ _ H6.out.cap H6.out.row).mono ?_
            rintro e w' ⟨rfl, y7, rfl⟩
            have hsy7 := y7.bel.size
            (try simp only [World.size_alloc, World.size_setCell, World.size_drew] at hsy7)
            go_wp2_with fail
            go_roundw
            case rel => exact ⟨T.eraseIdx k, a4, c4, k, by have := hel.out; omega, hle2, hwe.out, Y.out, rfl, rfl, ⟨own_mono (H4.out.bel (B := y4.w.heap.size) (by (repeat (first | (with_reducible exact Below.refl _ _) | (with_reducible assumption) | (with_reducible refine Later.out _ ?_) | (with_reducible refine bel_alloc ?_ _) | (with_reducible refine bel_drew ?_) | (with_reducible refine bel_drewN ?_ _) | (with_reducible refine bel_set ?_ ?_ _) | (with_reducible refine After.out _ ?_ ?_) | (dsimp only; omega) | omega | (simp only [World.size_alloc, World.size_setCell, World.size_drew]; omega)))) (Nat.le_refl _)).own (by omega), ((H4.out.bel (B := y4.w.heap.size) (by (repeat (first | (with_reducible exact Below.refl _ _) | (with_reducible assumption) | (with_reducible refine Later.out _ ?_) | (with_reducible refine bel_alloc ?_ _) | (with_reducible refine bel_drew ?_) | (with_reducible refine bel_drewN ?_ _) | (with_reducible refine bel_set ?_ ?_ _) | (with_reducible refine After.out _ ?_ ?_) | (dsimp only; omega) | omega | (simp only [World.size_alloc, World.size_setCell, World.size_drew]; omega)))) (Nat.le_refl _)).wide (by omega)).lt⟩, LaterC.mk (by (repeat (first | (with_reducible exact Below.refl _ _) | (with_reducible assumption) | (with_reducible refine Later.out _ ?_) | (with_reducible refine bel_alloc ?_ _) | (with_reducible refine bel_drew ?_) | (with_reducible refine bel_drewN ?_ _) | (with_reducible refine bel_set ?_ ?_ _) | (with_reducible refine After.out _ ?_ ?_) | (dsimp only; omega) | omega | (simp only [World.size_alloc, World.size_setCell, World.size_drew]; omega))))⟩
            case measure => have := hel.out; simp [intOf, sliceLen]; omega
        · obtain rfl : k = T.length := by omega
          have Y := Lib.hid ((shrinkS_end (Nat.le_refl _)).symm.trans hTR.out)
          go_wp2_with fail
          refine bodyPost_ret (by simp [results, Tryz.results23, go_sem, ↓IntWalk.iteOmega, *]; try rfl) rfl ?_
          rw [← Y.out]
          refine RetOwn.mk _ rfl HT.out.own ?_
          (repeat (first | (with_reducible exact Below.refl _ _) | (with_reducible assumption) | (with_reducible refine Later.out _ ?_) | (with_reducible refine bel_alloc ?_ _) | (with_reducible refine bel_drew ?_) | (with_reducible refine bel_drewN ?_ _) | (with_reducible refine bel_set ?_ ?_ _) | (with_reducible refine After.out _ ?_ ?_) | (dsimp only; omega) | omega | (simp only [World.size_alloc, World.size_setCell, World.size_drew]; omega)))
  · rw [show witR L l = [] by simp [witR, h], show witK L l = codeZ L l by simp [witK, h]]
    generalize codeZ L l = k at C1 h
    have hk : (k == 0) = false := by simpa using h
    have hk' : (k != 0) = true := by simpa using h
    replace C1 := Lib.hid C1
    clear ok hr hr' hs hx
    go_enter Tryz.func23, Tryz.ntmps23
    go_wp2_with fail
    with_reducible refine (C1.out).mono ?_
    rintro e w' ⟨rfl, y1, rfl⟩
    have hsy1 := y1.bel.size
    (try simp only [World.size_alloc, World.size_setCell, World.size_drew] at hsy1)
    go_wp2_with fail
    refine bodyPost_ret (by simp [results, Tryz.results23, go_sem, ↓IntWalk.iteOmega, *]; try rfl) rfl ?_
    refine RetOwn.mk (.slice none 0 0) rfl (World.ownsRow_nil _ _ _ _) ?_
    (repeat (first | (with_reducible exact Below.refl _ _) | (with_reducible assumption) | (with_reducible refine Later.out _ ?_) | (with_reducible refine bel_alloc ?_ _) | (with_reducible refine bel_drew ?_) | (with_reducible refine bel_drewN ?_ _) | (with_reducible refine bel_set ?_ ?_ _) | (with_reducible refine After.out _ ?_ ?_) | (dsimp only; omega) | omega | (simp only [World.size_alloc, World.size_setCell, World.size_drew]; omega)))
set_option maxRecDepth 8000 in
set_option maxHeartbeats 4000000 in
theorem wit_spec (hs : Shp a' n' c') : Calls Tryz.prog 22 #[.slice a n c, .slice a' n' c'] w (RetOwn w 2 1 (witR L l).length (intCells (witR L l)) fun v => .tuple #[v, .int .i64 (witK L l)]) := by
  have C1 := sCode_any L l a a' n c n' c' w hn hn' hm hm' hr hr' ok
  by_cases h : codeZ L l = 0
  · have hcl := code_claims h
    have hri := code_rises h
    have hwi := within_of_rises hri
    have h12 := len_of_claims hcl
    have hll := rises_len hri
    have hv := named_of fun c hc => claim_of_claims hcl hc
    subst hn hn'
    rw [h] at C1
    have CH := Lib.hid (fun (T : List Int) (hT : Within L.length T) (hl : T.length ≤ 1000) a' c' (w : World) hr hr' => sChosen_any L T a a' L.length c T.length c' w rfl rfl hm (by omega) hr hr' hT)
    have CA := Lib.hid (fun (T : List Int) (b : Bool) (hb : coreG L T = b) (hl : T.length ≤ 1000) a c (w : World) hr => sCons_b (L := pick L T) (a := a) (c := c) (w := w) (n := (pick L T).length) (b := !b) rfl (by have := pick_le L T; omega) hr (named_pick hv T) (coreG_b hb))
    have CL := Lib.hid (fun (T : List Int) (i : Nat) (hi : i < T.length) (hl : T.length ≤ 1000) a' c' (w : World) hc hr => sWithout_any T i a' T.length c' w rfl hi hl hc hr)
    have CC := Lib.hid (fun (w : World) hr => sOwn_any l a' l.length c' w rfl (by omega) hr)
    replace C1 := Lib.hid C1
    replace hr := Lib.hid hr
    replace hr' := Lib.hid hr'
    replace hwi := Lib.hid hwi
    have hl12 : l.length ≤ 12 := by omega
    clear ok hcl hri hs hv
    cases hg : coreG L l
    · rw [show witR L l = [] by simp [witR, h, hg], show witK L l = 4 by simp [witK, h, hg]]
      replace hg := Lib.hid hg
      clear h
      go_enter Tryz.func22, Tryz.ntmps22
      go_wp2_with fail
      with_reducible refine (C1.out).mono ?_
      rintro e w' ⟨rfl, y1, rfl⟩
      have hsy1 := y1.bel.size
      (try simp only [World.size_alloc, World.size_setCell, World.size_drew] at hsy1)
      go_wp2_with fail
      with_reducible refine (CH.out l hwi.out (by omega) _ _ _ (hr.out.bel (by (repeat (first | (with_reducible exact Below.refl _ _) | (with_reducible assumption) | (with_reducible refine Later.out _ ?_) | (with_reducible refine bel_alloc ?_ _) | (with_reducible refine bel_drew ?_) | (with_reducible refine bel_drewN ?_ _) | (with_reducible refine bel_set ?_ ?_ _) | (with_reducible refine After.out _ ?_ ?_) | (dsimp only; omega) | omega | (simp only [World.size_alloc, World.size_setCell, World.size_drew]; omega))))) (hr'.out.bel (by (repeat (first | (with_reducible exact Below.refl _ _) | (with_reducible assumption) | (with_reducible refine Later.out _ ?_) | (with_reducible refine bel_alloc ?_ _) | (with_reducible refine bel_drew ?_) | (with_reducible refine bel_drewN ?_ _) | (with_reducible refine bel_set ?_ ?_ _) | (with_reducible refine After.out _ ?_ ?_) | (dsimp only; omega) | omega | (simp only [World.size_alloc, World.size_setCell, World.size_drew]; omega)))))).mono ?_
      rintro e w' ⟨a2, c2, rfl, hown, y2, rfl⟩
      have hsy2 := y2.bel.size
      (try simp only [World.size_alloc, World.size_setCell, World.size_drew] at hsy2)
      have H2 := Lib.hid (Owns.of hown)
      clear hown
      go_wp2_with fail
      with_reducible refine (CA.out l _ hg.out (by omega) _ _ _ H2.out.row).mono ?_
      rintro e w' ⟨rfl, y3, rfl⟩
      have hsy3 := y3.bel.size
      (try simp only [World.size_alloc, World.size_setCell, World.size_drew] at hsy3)
      go_wp2_with fail
      refine bodyPost_ret (by simp [results, Tryz.results22, go_sem, ↓IntWalk.iteOmega, *]; try rfl) rfl ?_
      refine RetOwn.mk (.slice none 0 0) rfl (World.ownsRow_nil _ _ _ _) ?_
      (repeat (first | (with_reducible exact Below.refl _ _) | (with_reducible assumption) | (with_reducible refine Later.out _ ?_) | (with_reducible refine bel_alloc ?_ _) | (with_reducible refine bel_drew ?_) | (with_reducible refine bel_drewN ?_ _) | (with_reducible refine bel_set ?_ ?_ _) | (with_reducible refine After.out _ ?_ ?_) | (dsimp only; omega) | omega | (simp only [World.size_alloc, World.size_setCell, World.size_drew]; omega)))
    · obtain ⟨R, hR⟩ : ∃ R, shrinkS (coreG L) l 0 = R := ⟨_, rfl⟩
      rw [show witR L l = R by simp [witR, h, hg, hR], show witK L l = 0 by simp [witK, h, hg]]
      replace hR := Lib.hid hR
      replace hg := Lib.hid hg
      clear h
      go_enter Tryz.func22, Tryz.ntmps22
      go_wp2_with fail
      with_reducible refine (C1.out).mono ?_
      rintro e w' ⟨rfl, y1, rfl⟩
      have hsy1 := y1.bel.size
      (try simp only [World.size_alloc, World.size_setCell, World.size_drew] at hsy1)
      go_wp2_with fail
      with_reducible refine (CH.out l hwi.out (by omega) _ _ _ (hr.out.bel (by (repeat (first | (with_reducible exact Below.refl _ _) | (with_reducible assumption) | (with_reducible refine Later.out _ ?_) | (with_reducible refine bel_alloc ?_ _) | (with_reducible refine bel_drew ?_) | (with_reducible refine bel_drewN ?_ _) | (with_reducible refine bel_set ?_ ?_ _) | (with_reducible refine After.out _ ?_ ?_) | (dsimp only; omega) | omega | (simp only [World.size_alloc, World.size_setCell, World.size_drew]; omega))))) (hr'.out.bel (by (repeat (first | (with_reducible exact Below.refl _ _) | (with_reducible assumption) | (with_reducible refine Later.out _ ?_) | (with_reducible refine bel_alloc ?_ _) | (with_reducible refine bel_drew ?_) | (with_reducible refine bel_drewN ?_ _) | (with_reducible refine bel_set ?_ ?_ _) | (with_reducible refine After.out _ ?_ ?_) | (dsimp only; omega) | omega | (simp only [World.size_alloc, World.size_setCell, World.size_drew]; omega)))))).mono ?_
      rintro e w' ⟨a2, c2, rfl, hown, y2, rfl⟩
      have hsy2 := y2.bel.size
      (try simp only [World.size_alloc, World.size_setCell, World.size_drew] at hsy2)
      have H2 := Lib.hid (Owns.of hown)
      clear hown
      go_wp2_with fail
      with_reducible refine (CA.out l _ hg.out (by omega) _ _ _ H2.out.row).mono ?_
      rintro e w' ⟨rfl, y3, rfl⟩
      have hsy3 := y3.bel.size
      (try simp only [World.size_alloc, World.size_setCell, World.size_drew] at hsy3)
      go_wp2_with fail
      with_reducible refine (CC.out _ (hr'.out.bel (by (repeat (first | (with_reducible exact Below.refl _ _) | (with_reducible assumption) | (with_reducible refine Later.out _ ?_) | (with_reducible refine bel_alloc ?_ _) | (with_reducible refine bel_drew ?_) | (with_reducible refine bel_drewN ?_ _) | (with_reducible refine bel_set ?_ ?_ _) | (with_reducible refine After.out _ ?_ ?_) | (dsimp only; omega) | omega | (simp only [World.size_alloc, World.size_setCell, World.size_drew]; omega)))))).mono ?_
      rintro e w' ⟨a9, c9, rfl, hown, y9, rfl⟩
      have hsy9 := y9.bel.size
      (try simp only [World.size_alloc, World.size_setCell, World.size_drew] at hsy9)
      have H9 := Lib.hid (Owns.of hown)
      clear hown
      go_wp2_with fail
      go_loopw [7, 8] (fun o i wr => ∃ (T : List Int) (a5 : Option Addr) (c5 k : Nat), k ≤ T.length ∧ T.length ≤ 12 ∧ Within L.length T ∧ shrinkS (coreG L) T k = R ∧ o = .slice a5 T.length c5 ∧ i = .int .i64 k ∧ Owns wr w.heap.size wr.heap.size 2 1 T.length a5 c5 (intCells T) ∧ ∃ z : Later w, wr = z.w) (fun o i _ => sliceLen o - (intOf i).toNat)
      case atStart => exact ⟨l, a9, c9, 0, Nat.zero_le _, hl12, hwi.out, hR.out, rfl, rfl, ⟨own_mono H9.out.own (by omega), H9.out.lt⟩, LaterC.mk (by (repeat (first | (with_reducible exact Below.refl _ _) | (with_reducible assumption) | (with_reducible refine Later.out _ ?_) | (with_reducible refine bel_alloc ?_ _) | (with_reducible refine bel_drew ?_) | (with_reducible refine bel_drewN ?_ _) | (with_reducible refine bel_set ?_ ?_ _) | (with_reducible refine After.out _ ?_ ?_) | (dsimp only; omega) | omega | (simp only [World.size_alloc, World.size_setCell, World.size_drew]; omega))))⟩
      case round =>
        obtain ⟨T, a5, c5, k, hk, hT12, hTw, hTR, rfl, rfl, hown, z, rfl⟩ := hrel
        have hzz := z.bel.size
        replace hTR := Lib.hid hTR
        replace hTw := Lib.hid hTw
        have HT := Lib.hid hown
        clear hown
        by_cases hlt : k < T.length
        · have hi1 : (k : Int) < (T.length : Int) := by omega
          have hel := Lib.hid (List.length_eraseIdx_of_lt hlt)
          have hle2 : (T.eraseIdx k).length ≤ 12 := by have := hel.out; omega
          have hwe := Lib.hid (within_erase hTw.out k)
          cases hv2 : coreG L (T.eraseIdx k)
          · have Y := Lib.hid ((shrinkS_no hlt hv2).symm.trans hTR.out)
            replace hv2 := Lib.hid hv2
            go_wp2_with fail
            with_reducible refine (CL.out T k hlt (by omega) _ _ _ HT.out.cap HT.out.row).mono ?_
            rintro e w' ⟨a4, c4, rfl, hown, y4, rfl⟩
            have hsy4 := y4.bel.size
            (try simp only [World.size_alloc, World.size_setCell, World.size_drew] at hsy4)
            have H4 := Lib.hid (Owns.of hown)
            clear hown
            go_wp2_with fail
            with_reducible refine (CH.out _ hwe.out (by omega) _ _ _ (hr.out.bel (by (repeat (first | (with_reducible exact Below.refl _ _) | (with_reducible assumption) | (with_reducible refine Later.out _ ?_) | (with_reducible refine bel_alloc ?_ _) | (with_reducible refine bel_drew ?_) | (with_reducible refine bel_drewN ?_ _) | (with_reducible refine bel_set ?_ ?_ _) | (with_reducible refine After.out _ ?_ ?_) | (dsimp only; omega) | omega | (simp only [World.size_alloc, World.size_setCell, World.size_drew]; omega))))) H4.out.row).mono ?_
            rintro e w' ⟨a6, c6, rfl, hown, y6, rfl⟩
            have hsy6 := y6.bel.size
            (try simp only [World.size_alloc, World.size_setCell, World.size_drew] at hsy6)
            have H6 := Lib.hid (Owns.of hown)
            clear hown
            go_wp2_with fail
            with_reducible refine (CA.out _ _ hv2.out (by omega) _ _ _ H6.out.row).mono ?_
            rintro e w' ⟨rfl, y7, rfl⟩
            have hsy7 := y7.bel.size
            (try simp only [World.size_alloc, World.size_setCell, World.size_drew] at hsy7)
            go_wp2_with fail
            go_roundw
            case rel => exact ⟨T, a5, c5, k + 1, by omega, hT12, hTw.out, Y.out, rfl, by go_num, (HT.out.bel (B := z.w.heap.size) (by (repeat (first | (with_reducible exact Below.refl _ _) | (with_reducible assumption) | (with_reducible refine Later.out _ ?_) | (with_reducible refine bel_alloc ?_ _) | (with_reducible refine bel_drew ?_) | (with_reducible refine bel_drewN ?_ _) | (with_reducible refine bel_set ?_ ?_ _) | (with_reducible refine After.out _ ?_ ?_) | (dsimp only; omega) | omega | (simp only [World.size_alloc, World.size_setCell, World.size_drew]; omega)))) (Nat.le_refl _)).wide (by omega), LaterC.mk (by (repeat (first | (with_reducible exact Below.refl _ _) | (with_reducible assumption) | (with_reducible refine Later.out _ ?_) | (with_reducible refine bel_alloc ?_ _) | (with_reducible refine bel_drew ?_) | (with_reducible refine bel_drewN ?_ _) | (with_reducible refine bel_set ?_ ?_ _) | (with_reducible refine After.out _ ?_ ?_) | (dsimp only; omega) | omega | (simp only [World.size_alloc, World.size_setCell, World.size_drew]; omega))))⟩
            case measure => have := hel.out; simp [intOf, sliceLen]; omega
          · have Y := Lib.hid ((shrinkS_yes hlt hv2).symm.trans hTR.out)
            replace hv2 := Lib.hid hv2
            go_wp2_with fail
            with_reducible refine (CL.out T k hlt (by omega) _ _ _ HT.out.cap HT.out.row).mono ?_
            rintro e w' ⟨a4, c4, rfl, hown, y4, rfl⟩
            have hsy4 := y4.bel.size
            (try simp only [World.size_alloc, World.size_setCell, World.size_drew] at hsy4)
            have H4 := Lib.hid (Owns.of hown)
            clear hown
            go_wp2_with fail
            with_reducible refine (CH.out _ hwe.out (by omega) _ _ _ (hr.out.bel (by (repeat (first | (with_reducible exact Below.refl _ _) | (with_reducible assumption) | (with_reducible refine Later.out _ ?_) | (with_reducible refine bel_alloc ?_ _) | (with_reducible refine bel_drew ?_) | (with_reducible refine bel_drewN ?_ _) | (with_reducible refine bel_set ?_ ?_ _) | (with_reducible refine After.out _ ?_ ?_) | (dsimp only; omega) | omega | (simp only [World.size_alloc, World.size_setCell, World.size_drew]; omega))))) H4.out.row).mono ?_
            rintro e w' ⟨a6, c6, rfl, hown, y6, rfl⟩
            have hsy6 := y6.bel.size
            (try simp only [World.size_alloc, World.size_setCell, World.size_drew] at hsy6)
            have H6 := Lib.hid (Owns.of hown)
            clear hown
            go_wp2_with fail
            with_reducible refine (CA.out _ _ hv2.out (by omega) _ _ _ H6.out.row).mono ?_
            rintro e w' ⟨rfl, y7, rfl⟩
            have hsy7 := y7.bel.size
            (try simp only [World.size_alloc, World.size_setCell, World.size_drew] at hsy7)
            go_wp2_with fail
            go_roundw
            case rel => exact ⟨T.eraseIdx k, a4, c4, k, by have := hel.out; omega, hle2, hwe.out, Y.out, rfl, rfl, ⟨own_mono (H4.out.bel (B := y4.w.heap.size) (by (repeat (first | (with_reducible exact Below.refl _ _) | (with_reducible assumption) | (with_reducible refine Later.out _ ?_) | (with_reducible refine bel_alloc ?_ _) | (with_reducible refine bel_drew ?_) | (with_reducible refine bel_drewN ?_ _) | (with_reducible refine bel_set ?_ ?_ _) | (with_reducible refine After.out _ ?_ ?_) | (dsimp only; omega) | omega | (simp only [World.size_alloc, World.size_setCell, World.size_drew]; omega)))) (Nat.le_refl _)).own (by omega), ((H4.out.bel (B := y4.w.heap.size) (by (repeat (first | (with_reducible exact Below.refl _ _) | (with_reducible assumption) | (with_reducible refine Later.out _ ?_) | (with_reducible refine bel_alloc ?_ _) | (with_reducible refine bel_drew ?_) | (with_reducible refine bel_drewN ?_ _) | (with_reducible refine bel_set ?_ ?_ _) | (with_reducible refine After.out _ ?_ ?_) | (dsimp only; omega) | omega | (simp only [World.size_alloc, World.size_setCell, World.size_drew]; omega)))) (Nat.le_refl _)).wide (by omega)).lt⟩, LaterC.mk (by (repeat (first | (with_reducible exact Below.refl _ _) | (with_reducible assumption) | (with_reducible refine Later.out _ ?_) | (with_reducible refine bel_alloc ?_ _) | (with_reducible refine bel_drew ?_) | (with_reducible refine bel_drewN ?_ _) | (with_reducible refine bel_set ?_ ?_ _) | (with_reducible refine After.out _ ?_ ?_) | (dsimp only; omega) | omega | (simp only [World.size_alloc, World.size_setCell, World.size_drew]; omega))))⟩
            case measure => have := hel.out; simp [intOf, sliceLen]; omega
        · obtain rfl : k = T.length := by omega
          have Y := Lib.hid ((shrinkS_end (Nat.le_refl _)).symm.trans hTR.out)
          go_wp2_with fail
          refine bodyPost_ret (by simp [results, Tryz.results22, go_sem, ↓IntWalk.iteOmega, *]; try rfl) rfl ?_
          rw [← Y.out]
          refine RetOwn.mk _ rfl HT.out.own ?_
          (repeat (first | (with_reducible exact Below.refl _ _) | (with_reducible assumption) | (with_reducible refine Later.out _ ?_) | (with_reducible refine bel_alloc ?_ _) | (with_reducible refine bel_drew ?_) | (with_reducible refine bel_drewN ?_ _) | (with_reducible refine bel_set ?_ ?_ _) | (with_reducible refine After.out _ ?_ ?_) | (dsimp only; omega) | omega | (simp only [World.size_alloc, World.size_setCell, World.size_drew]; omega)))
  · rw [show witR L l = [] by simp [witR, h], show witK L l = codeZ L l by simp [witK, h]]
    generalize codeZ L l = k at C1 h
    have hk : (k == 0) = false := by simpa using h
    have hk' : (k != 0) = true := by simpa using h
    replace C1 := Lib.hid C1
    clear ok hr hr' hs
    go_enter Tryz.func22, Tryz.ntmps22
    go_wp2_with fail
    with_reducible refine (C1.out).mono ?_
    rintro e w' ⟨rfl, y1, rfl⟩
    have hsy1 := y1.bel.size
    (try simp only [World.size_alloc, World.size_setCell, World.size_drew] at hsy1)
    go_wp2_with fail
    refine bodyPost_ret (by simp [results, Tryz.results22, go_sem, ↓IntWalk.iteOmega, *]; try rfl) rfl ?_
    refine RetOwn.mk (.slice none 0 0) rfl (World.ownsRow_nil _ _ _ _) ?_
    (repeat (first | (with_reducible exact Below.refl _ _) | (with_reducible assumption) | (with_reducible refine Later.out _ ?_) | (with_reducible refine bel_alloc ?_ _) | (with_reducible refine bel_drew ?_) | (with_reducible refine bel_drewN ?_ _) | (with_reducible refine bel_set ?_ ?_ _) | (with_reducible refine After.out _ ?_ ?_) | (dsimp only; omega) | omega | (simp only [World.size_alloc, World.size_setCell, World.size_drew]; omega)))
end
end Go.Proofs.YtcpddgkloeklaaaGreatDoor

/- Slices of texts: comparison and marks. -/
set_option linter.unusedSimpArgs false
set_option linter.unusedVariables false
namespace Go.Proofs.YtcpddgkloeklaaaGreatDoor
open Go.RowKit
set_option maxHeartbeats 1000000 in
theorem eqStringS_same (O : List ByteArray) (a a' : Option Addr) (n c n' c' : Nat) (w : World) (hn : O.length = n) (hn' : O.length = n') (hm : n ≤ 1048576) (hr : Row w a (strCells O)) (hr' : Row w a' (strCells O)) :
    Calls Tryz.prog 31 #[.slice a n c, .slice a' n' c'] w (Ret w (.bool true)) := by
  subst hn
  subst hn'
  replace hr := Lib.hid hr
  replace hr' := Lib.hid hr'
  go_enter Tryz.func31, Tryz.ntmps31
  go_wp2_with fail
  go_loopw [5] (fun i wr => ∃ k : Nat, k ≤ O.length ∧ i = .int .i64 k ∧ ∃ z : Later w, wr = z.w) (fun i _ => O.length - (intOf i).toNat)
  case atStart => exact ⟨0, Nat.zero_le _, rfl, ⟨_, Below.refl _ _⟩, rfl⟩
  case round =>
    obtain ⟨k, hk, rfl, z, rfl⟩ := hrel
    by_cases hlt : k < O.length
    · obtain ⟨b, o, rfl, hb, q⟩ := hr.out.str hlt
      obtain ⟨b', o', rfl, hb', q'⟩ := hr'.out.str hlt
      have hi1 : (k : Int) < (O.length : Int) := by omega
      have hzz := z.bel.size
      go_wp2_with fail
      go_quiet (fail)
      go_wp2_with fail
      go_roundw
      case rel => exact ⟨k + 1, by omega, by go_num, LaterC.mk (by (repeat (first | (with_reducible exact Below.refl _ _) | (with_reducible assumption) | (with_reducible refine Later.out _ ?_) | (with_reducible refine bel_alloc ?_ _) | (with_reducible refine bel_drew ?_) | (with_reducible refine bel_drewN ?_ _) | (with_reducible refine bel_set ?_ ?_ _) | (with_reducible refine After.out _ ?_ ?_) | (dsimp only; omega) | omega | (simp only [World.size_alloc, World.size_setCell, World.size_drew]; omega))))⟩
      case measure => first | (simp [intOf]; done) | (simp [intOf]; omega) | omega
    · obtain rfl : k = O.length := by omega
      go_wp2_with fail
      go_ret
      exact .mk rfl (by (repeat (first | (with_reducible exact Below.refl _ _) | (with_reducible assumption) | (with_reducible refine Later.out _ ?_) | (with_reducible refine bel_alloc ?_ _) | (with_reducible refine bel_drew ?_) | (with_reducible refine bel_drewN ?_ _) | (with_reducible refine bel_set ?_ ?_ _) | (with_reducible refine After.out _ ?_ ?_) | (dsimp only; omega) | omega | (simp only [World.size_alloc, World.size_setCell, World.size_drew]; omega))))
def markSs (k : Int) (n : Nat) : List Value := (List.range n).map fun (j : Nat) => Value.string (mT (k + (j : Int)))
def markSPart (xs : List Value) (k : Int) (j : Nat) : List Value := markSs k j ++ xs.drop j
theorem markSs_get {k : Int} {n j : Nat} (h : j < n) : (markSs k n)[j]? = some (.string (mT (k + j))) := by simp [markSs, h]
theorem length_markSs (k : Int) (n : Nat) : (markSs k n).length = n := by simp [markSs]
theorem markSPart_zero (xs : List Value) (k : Int) : markSPart xs k 0 = xs := by simp [markSPart, markSs]
theorem markSPart_full (xs : List Value) (k : Int) (n : Nat) (h : xs.length = n) : markSPart xs k n = markSs k n := by simp [markSPart, h, List.drop_eq_nil_of_le]
theorem markSPart_step (xs : List Value) (k : Int) (j : Nat) (h : j < xs.length) : (markSPart xs k j).set j (.string (mT (k + j))) = markSPart xs k (j + 1) := by
  unfold markSPart
  rw [List.set_append_right _ _ (by simp [markSs]), length_markSs, Nat.sub_self, List.drop_eq_getElem_cons h, List.set_cons_zero]
  simp [markSs, List.range_succ]
set_option maxRecDepth 8000 in
set_option maxHeartbeats 2000000 in
theorem markStringS_any (a : Option Addr) (n c lo hi : Nat) (k : Int) (xs : List Value) (w : World) (h : Owns w lo hi 9 1 n a c xs) (hlo : hi ≤ w.heap.size) (hm : n ≤ 1048577) (hk : 0 < k) (hk' : k ≤ 549755813888) :
    Calls Tryz.prog 32 #[.slice a n c, .int .i64 k] w (RetMark w lo hi 9 n a c (markSs k n) (.int .i64 (k + n))) := by
  have hl : xs.length = n := by have := h.own.1; omega
  have HO := Lib.hid h
  have HL := Lib.hid hl
  clear h hl
  go_enter Tryz.func32, Tryz.ntmps32
  go_wp2_with fail
  go_loopw [1, 5] (fun kk i wr => ∃ j : Nat, j ≤ n ∧ i = .int .i64 j ∧ kk = .int .i64 (k + j) ∧ Between lo hi w wr ∧ Owns wr lo hi 9 1 n a c (markSPart xs k j)) (fun _ i _ => n - (intOf i).toNat)
  case atStart => exact ⟨0, Nat.zero_le _, rfl, by simp, Between.refl _ _ _, by rw [markSPart_zero]; exact HO.out⟩
  case round =>
    obtain ⟨j, hj, rfl, rfl, hb, ho⟩ := hrel
    by_cases hlt : j < n
    · have hxl := HL.out
      obtain ⟨g, rfl, g1, g2, hc, hf⟩ := ho.at_ (j := j) (by omega)
      obtain ⟨u, hu⟩ : ∃ u, (markSPart xs k j)[j]? = some u := ⟨_, List.getElem?_eq_getElem (by have := ho.own.1; omega)⟩
      rw [hu] at hc
      obtain ⟨z, rfl⟩ := AfterC.mk hb
      have hzs := z.btw.size
      have hgz : g < z.w.heap.size := by omega
      have hst := markSPart_step xs k j (by omega)
      replace hst := Lib.hid hst
      have HS := Lib.hid ho
      clear hb ho hu
      have hp1 : 0 < k + (j : Int) := by omega
      have hp2 : k + (j : Int) < 1099511627776 := by omega
      go_wp2_with fail
      with_reducible refine (mText_any (k + (j : Int)) _ hp1 hp2).mono ?_
      rintro e w' ⟨rfl, y1, rfl⟩
      have hsy1 := y1.bel.size
      (try simp only [World.size_alloc, World.size_setCell, World.size_drew] at hsy1)
      have lt1 : g < y1.w.heap.size := by omega
      go_wp2_with fail
      have O1 := (HS.out.bel (B := z.w.heap.size) y1.bel (by omega)).set (j := j) (.string (mT (k + (j : Int))))
      rw [hst.out] at O1
      replace O1 := Lib.hid O1
      go_roundw
      case rel => exact ⟨j + 1, by omega, by go_num, by go_num, by (repeat (first | (with_reducible exact Between.refl _ _ _) | (with_reducible refine Between.drew ?_) | (with_reducible refine Between.drewN ?_ _) | (with_reducible refine Between.set ?_ ?_ ?_ _) | (with_reducible refine btw_later _ ?_) | (with_reducible refine btw_alloc ?_ _) | (with_reducible refine btw_after _ ?_) | (with_reducible assumption) | (dsimp only; omega) | omega)), O1.out⟩
      case measure => simp [intOf]; omega
    · obtain rfl : j = n := by omega
      rw [markSPart_full _ _ _ HL.out] at ho
      have HB := Lib.hid hb
      have HO := Lib.hid ho
      clear hb ho
      go_wp2_with fail
      go_ret
      exact ⟨rfl, ⟨_, HB.out⟩, rfl, HO.out⟩
set_option maxRecDepth 8000 in
set_option maxHeartbeats 2000000 in
theorem heldStringS_any (a : Option Addr) (n c : Nat) (k : Int) (w : World) (h : Row w a (markSs k n)) (hm : n ≤ 1048577) (hk : 0 < k) (hk' : k ≤ 549755813888) :
    Calls Tryz.prog 33 #[.slice a n c, .int .i64 k] w (Ret w (.int .i64 (k + n))) := by
  have HO := Lib.hid h
  clear h
  go_enter Tryz.func33, Tryz.ntmps33
  go_wp2_with fail
  go_loopw [1, 5] (fun kk i wr => ∃ j : Nat, j ≤ n ∧ i = .int .i64 j ∧ kk = .int .i64 (k + j) ∧ ∃ z : Later w, wr = z.w) (fun _ i _ => n - (intOf i).toNat)
  case atStart => exact ⟨0, Nat.zero_le _, rfl, by simp, ⟨_, Below.refl _ _⟩, rfl⟩
  case round =>
    obtain ⟨j, hj, rfl, rfl, z, rfl⟩ := hrel
    have hzz := z.bel.size
    by_cases hlt : j < n
    · obtain ⟨b, o, rfl, hc⟩ := HO.out j _ (markSs_get hlt)
      have hb := World.block_lt_of_cell? w _ hc
      simp only at hb
      have hp1 : 0 < k + (j : Int) := by omega
      have hp2 : k + (j : Int) < 1099511627776 := by omega
      go_wp2_with fail
      refine wp_region_plan [(0, true), (1, true), (2, true), (3, true), (4, true), (5, false), (6, true)] (C := LaterC _) (by kernel_rfl) (by kernel_rfl) (by kernel_rfl) rfl (fun _ _ d _ _ h => by cases d <;> exact h) (LaterC.mk ((Below.refl _ _).drew)) ?_
      first | (refine plan_quiet nth0 rfl ?_; intro KP hKP; go_big_quiet_op; go_big_quiet_on) | (refine plan_skip_q nth0 rfl rfl ?_; simp only [Act.put, List.setIfInBounds_toArray, List.set_cons_zero, List.set_cons_succ])
      first | (refine plan_quiet nth1 rfl ?_; intro KP hKP; go_big_quiet_op; go_big_quiet_on) | (refine plan_skip_q nth1 rfl rfl ?_; simp only [Act.put, List.setIfInBounds_toArray, List.set_cons_zero, List.set_cons_succ])
      first | (refine plan_quiet nth2 rfl ?_; intro KP hKP; go_big_quiet_op; go_big_quiet_on) | (refine plan_skip_q nth2 rfl rfl ?_; simp only [Act.put, List.setIfInBounds_toArray, List.set_cons_zero, List.set_cons_succ])
      first | (refine plan_quiet nth3 rfl ?_; intro KP hKP; go_big_quiet_op; go_big_quiet_on) | (refine plan_skip_q nth3 rfl rfl ?_; simp only [Act.put, List.setIfInBounds_toArray, List.set_cons_zero, List.set_cons_succ])
      first | (refine plan_quiet nth4 rfl ?_; intro KP hKP; go_big_quiet_op; go_big_quiet_on) | (refine plan_skip_q nth4 rfl rfl ?_; simp only [Act.put, List.setIfInBounds_toArray, List.set_cons_zero, List.set_cons_succ])
      first | (refine plan_loud nth5 rfl ?_; intro KP hKP; go_wp2_with (first | (go_at_call 68; first | ((with_reducible refine (Calls.later (mText_any (k + (j : Int)) _ hp1 hp2)).mono ?_); rintro e w' ⟨rfl, xl, rfl⟩; have hsz := xl.bel.size; (try simp only [World.size_alloc, World.size_setCell, World.size_drew] at hsz); (try have hz0 : w.heap.size < xl.w.heap.size := (by omega)); (try have hz1 : w.heap.size + 1 < xl.w.heap.size := (by omega)); (try have hz2 : w.heap.size + 1 + 1 < xl.w.heap.size := (by omega))) | ((with_reducible refine (mText_any (k + (j : Int)) _ hp1 hp2).mono ?_); rintro e w' ⟨rfl, xl, rfl⟩; have hsz := xl.bel.size; (try simp only [World.size_alloc, World.size_setCell, World.size_drew] at hsz); (try have hz0 : w.heap.size < xl.w.heap.size := (by omega)); (try have hz1 : w.heap.size + 1 < xl.w.heap.size := (by omega)); (try have hz2 : w.heap.size + 1 + 1 < xl.w.heap.size := (by omega))))); refine hKP _ _ (LaterC.mk (by (repeat (first | (with_reducible exact Below.refl _ _) | (with_reducible assumption) | (with_reducible refine Later.out _ ?_) | (with_reducible refine bel_alloc ?_ _) | (with_reducible refine bel_drew ?_) | (with_reducible refine bel_drewN ?_ _) | (with_reducible refine bel_set ?_ ?_ _) | (with_reducible refine After.out _ ?_ ?_) | (dsimp only; omega) | omega | (simp only [World.size_alloc, World.size_setCell, World.size_drew]; omega))))) ?_; clear hKP KP) | (refine plan_skip nth5 rfl rfl (LaterC.mk (by (repeat (first | (with_reducible exact Below.refl _ _) | (with_reducible assumption) | (with_reducible refine Later.out _ ?_) | (with_reducible refine bel_alloc ?_ _) | (with_reducible refine bel_drew ?_) | (with_reducible refine bel_drewN ?_ _) | (with_reducible refine bel_set ?_ ?_ _) | (with_reducible refine After.out _ ?_ ?_) | (dsimp only; omega) | omega | (simp only [World.size_alloc, World.size_setCell, World.size_drew]; omega))))) ?_; simp only [Act.put, List.setIfInBounds_toArray, List.set_cons_zero, List.set_cons_succ])
      first | (refine plan_quiet nth6 rfl ?_; intro KP hKP; go_big_quiet_op; go_big_quiet_on) | (refine plan_skip_q nth6 rfl rfl ?_; simp only [Act.put, List.setIfInBounds_toArray, List.set_cons_zero, List.set_cons_succ])
      refine plan_nil ?_
      go_wp2_with fail
      go_roundw
      case rel => exact ⟨j + 1, by omega, by go_num, by go_num, LaterC.mk (by (repeat (first | (with_reducible exact Below.refl _ _) | (with_reducible assumption) | (with_reducible refine Later.out _ ?_) | (with_reducible refine bel_alloc ?_ _) | (with_reducible refine bel_drew ?_) | (with_reducible refine bel_drewN ?_ _) | (with_reducible refine bel_set ?_ ?_ _) | (with_reducible refine After.out _ ?_ ?_) | (dsimp only; omega) | omega | (simp only [World.size_alloc, World.size_setCell, World.size_drew]; omega))))⟩
      case measure => simp [intOf]; omega
    · obtain rfl : j = n := by omega
      go_wp2_with fail
      go_ret
      exact .mk rfl (by (repeat (first | (with_reducible exact Below.refl _ _) | (with_reducible assumption) | (with_reducible refine Later.out _ ?_) | (with_reducible refine bel_alloc ?_ _) | (with_reducible refine bel_drew ?_) | (with_reducible refine bel_drewN ?_ _) | (with_reducible refine bel_set ?_ ?_ _) | (with_reducible refine After.out _ ?_ ?_) | (dsimp only; omega) | omega | (simp only [World.size_alloc, World.size_setCell, World.size_drew]; omega))))
end Go.Proofs.YtcpddgkloeklaaaGreatDoor

/- Texts in order, each once: the plain law; impl.sorted. -/
set_option linter.unusedSimpArgs false
set_option linter.unusedVariables false
namespace Go.Proofs.YtcpddgkloeklaaaGreatDoor
open Go.RowKit
def key (s : ByteArray) : List UInt8 := s.data.toList
def mkB (l : List UInt8) : ByteArray := ⟨l.toArray⟩
theorem mkB_key (s : ByteArray) : mkB (key s) = s := by simp [mkB, key]
theorem key_mkB (l : List UInt8) : key (mkB l) = l := by simp [mkB, key]
theorem key_inj {s t : ByteArray} (h : key s = key t) : s = t := by rw [← mkB_key s, h, mkB_key]
theorem kle_total {a b : List UInt8} : (decide (a ≤ b) || decide (b ≤ a)) = true := by
  rcases List.le_total a b with h | h <;> simp [h]
theorem klt_of {a b : List UInt8} (h : a ≤ b) (hne : a ≠ b) : a < b := by
  by_cases h2 : b ≤ a
  · exact absurd (List.le_antisymm h h2) hne
  · exact List.not_le.1 h2
/-- What compact leaves of an ascending list. -/
theorem compact_up {d : Array (List UInt8)} (hs : ∀ i j, i < j → j < d.size → d[i]! ≤ d[j]!) : ∀ m, m ≤ d.size → (Lib.compactUpTo d m).Pairwise (· < ·) ∧ ∀ x, x ∈ Lib.compactUpTo d m ↔ ∃ j, j < m ∧ d[j]! = x
  | 0, _ => ⟨by simp [Lib.compactUpTo], fun x => by simp [Lib.compactUpTo]⟩
  | m + 1, hm => by
    obtain ⟨ih1, ih2⟩ := compact_up hs m (by omega)
    rw [Lib.compactUpTo_succ]
    by_cases hk : Lib.keeps d m = true
    · rw [if_pos hk]
      have hlt : ∀ j, j < m → d[j]! < d[m]! := fun j hj => by
        have hmp : 0 < m := by omega
        have hne : d[m]! ≠ d[m - 1]! := fun e => by rw [Lib.keeps_neg hmp e] at hk; cases hk
        have h1 : d[m - 1]! < d[m]! := klt_of (hs (m - 1) m (by omega) (by omega)) (Ne.symm hne)
        rcases Nat.lt_or_ge j (m - 1) with h2 | h2
        · exact List.lt_of_le_of_lt (hs j (m - 1) h2 (by omega)) h1
        · rw [show j = m - 1 by omega]; exact h1
      constructor
      · rw [List.pairwise_append]
        refine ⟨ih1, by simp, fun a ha b hb => ?_⟩
        obtain ⟨j, hj, rfl⟩ := (ih2 a).1 ha
        simp only [List.mem_cons, List.not_mem_nil, or_false] at hb
        subst hb
        exact hlt j hj
      · intro x
        rw [List.mem_append, ih2]
        simp only [List.mem_cons, List.not_mem_nil, or_false]
        constructor
        · rintro (⟨j, hj, rfl⟩ | rfl)
          · exact ⟨j, by omega, rfl⟩
          · exact ⟨m, by omega, rfl⟩
        · rintro ⟨j, hj, rfl⟩
          rcases Nat.lt_or_ge j m with h | h
          · exact .inl ⟨j, h, rfl⟩
          · exact .inr (by rw [show j = m by omega])
    · rw [if_neg hk, List.append_nil]
      refine ⟨ih1, fun x => ?_⟩
      rw [ih2]
      constructor
      · rintro ⟨j, hj, rfl⟩
        exact ⟨j, by omega, rfl⟩
      · rintro ⟨j, hj, rfl⟩
        rcases Nat.lt_or_ge j m with h | h
        · exact ⟨j, h, rfl⟩
        · obtain rfl : j = m := by omega
          rcases Nat.eq_zero_or_pos j with h0 | h0
          · subst h0
            exact absurd (Lib.keeps_lt_one d 0 (by omega)) hk
          · refine ⟨j - 1, by omega, ?_⟩
            by_cases e : d[j]! = d[j - 1]!
            · exact e.symm
            · exact absurd (Lib.keeps_pos e) hk
def ups (O : List ByteArray) : List (List UInt8) := (O.map key).mergeSort fun x y => decide (x ≤ y)
theorem ups_sorted (O : List ByteArray) : (ups O).Pairwise (· ≤ ·) := by
  have h := List.pairwise_mergeSort (le := fun (x y : List UInt8) => decide (x ≤ y)) (fun a b c h1 h2 => decide_eq_true (List.le_trans (of_decide_eq_true h1) (of_decide_eq_true h2))) (fun a b => kle_total) (O.map key)
  exact h.imp fun h => of_decide_eq_true h
theorem ups_perm (O : List ByteArray) : (ups O).Perm (O.map key) := List.mergeSort_perm _ _
/-- Texts in alphabetical order, each once. -/
def uniq (O : List ByteArray) : List ByteArray := (Lib.compact (ups O)).map mkB
theorem uniq_keys (O : List ByteArray) : (uniq O).map key = Lib.compact (ups O) := by
  unfold uniq
  rw [List.map_map]
  conv => rhs; rw [← List.map_id (Lib.compact (ups O))]
  exact List.map_congr_left fun x _ => key_mkB x
theorem uniq_spec (O : List ByteArray) : ((uniq O).map key).Pairwise (· < ·) ∧ ∀ s, s ∈ uniq O ↔ s ∈ O := by
  have hs : ∀ i j, i < j → j < (ups O).toArray.size → (ups O).toArray[i]! ≤ (ups O).toArray[j]! := fun i j hij hj => by
    have hj' : j < (ups O).length := by simpa using hj
    rw [getElem!_pos _ i (by simpa using (by omega : i < (ups O).length)), getElem!_pos _ j hj]
    simpa using List.pairwise_iff_getElem.1 (ups_sorted O) i j (by omega) hj' hij
  obtain ⟨h1, h2⟩ := compact_up hs (ups O).length (by simp)
  rw [uniq_keys]
  refine ⟨h1, fun s => ?_⟩
  have h3 : s ∈ uniq O ↔ key s ∈ Lib.compact (ups O) := by
    rw [← uniq_keys, List.mem_map]
    exact ⟨fun h => ⟨s, h, rfl⟩, fun ⟨t, ht, e⟩ => key_inj e ▸ ht⟩
  rw [h3, Lib.compact, h2]
  have h4 : key s ∈ ups O ↔ s ∈ O := by
    rw [(ups_perm O).mem_iff, List.mem_map]
    exact ⟨fun ⟨t, ht, e⟩ => key_inj e ▸ ht, fun h => ⟨s, h, rfl⟩⟩
  rw [← h4]
  constructor
  · rintro ⟨j, hj, e⟩
    rw [getElem!_pos _ j (by simpa using hj)] at e
    rw [← e]
    simp
  · intro h
    obtain ⟨j, hj, e⟩ := List.mem_iff_getElem.1 h
    exact ⟨j, hj, by rw [getElem!_pos _ j (by simpa using hj)]; simpa using e⟩
theorem uniq_le (O : List ByteArray) : (uniq O).length ≤ O.length := by
  unfold uniq
  have h1 : ∀ (d : Array (List UInt8)) m, (Lib.compactUpTo d m).length ≤ m := fun d m => by
    induction m with
    | zero => simp [Lib.compactUpTo]
    | succ m ih => rw [Lib.compactUpTo_succ, List.length_append]; split <;> simp <;> omega
  have h2 := (ups_perm O).length_eq
  rw [List.length_map] at h2 ⊢
  have := h1 (ups O).toArray (ups O).length
  unfold Lib.compact
  omega
theorem sorted_keys {A B : List ByteArray} (hA : (A.map key).Pairwise (· < ·)) (hB : (B.map key).Pairwise (· < ·)) (h : ∀ s, s ∈ A ↔ s ∈ B) : A = B := by
  rw [List.pairwise_map] at hA hB
  exact sorted_unique (R := fun a b => key a < key b) (fun a => List.lt_irrefl _) (fun a b h1 h2 => List.lt_irrefl _ (List.lt_trans h1 h2)) hA hB h
theorem enc_mkB (l : List (List UInt8)) : l.map encStr = strCells (l.map mkB) := by
  unfold strCells
  rw [List.map_map]
  rfl
theorem enc_keys (O : List ByteArray) : (O.map key).map encStr = strCells O := by
  rw [enc_mkB, List.map_map]
  congr 1
  conv => rhs; rw [← List.map_id O]
  exact List.map_congr_left fun x _ => mkB_key x
theorem btw_putS (w : World) (g m : Nat) (d : Array (List UInt8)) (os : Array Obj) : Between g (g + 1) w (Go.Sort.grow (Go.Sort.putRow encStr (Go.Sort.ahead w m) g 0 d) os) := by
  refine ⟨rfl, rfl, rfl, by simp, fun k hk hne => ?_⟩
  rw [Go.Sort.heap_grow_old _ _ (by simpa using hk)]
  have : g ≠ k := by omega
  simp [Go.Sort.putRow, Go.Sort.mapBlock, Go.Sort.ahead, Array.getElem?_modify, this]
theorem own_shorter {w : World} {base e g n n' cap : Nat} {xs : List Value} (h : w.ownsRow base e 1 (.slice (some ⟨g, 0, none⟩) n cap) n xs) (hn : n' ≤ n) : w.ownsRow base e 1 (.slice (some ⟨g, 0, none⟩) n' cap) n' (xs.take n') := by
  rcases h.2 with ⟨h0, _⟩ | ⟨g', cap', cur, hv, hg, hb, h1, h2, h3, h4⟩
  · cases h0
  · cases hv
    have h5 := h.1
    refine ⟨by simp; omega, .inr ⟨g, cap, cur, rfl, hg, hb, by omega, h2, h3, ?_⟩⟩
    rw [Nat.mul_one] at h4 ⊢
    rw [← h4, List.take_take, Nat.min_eq_left hn]
/-- The call sorted texts of the caller's own, each once. -/
def RetUniq (w : World) (lo : Nat) (a : Option Addr) (c : Nat) (O : List ByteArray) (e : Ending) (w' : World) : Prop :=
  e = .returned (.slice a (uniq O).length c) ∧ Owns w' lo w'.heap.size 9 1 (uniq O).length a c (strCells (uniq O)) ∧ Below lo w w'
set_option maxHeartbeats 1000000 in
theorem sortedStr_any (O : List ByteArray) (a : Option Addr) (n c lo : Nat) (w : World) (hn : O.length = n) (hm : n ≤ 1048576) (hlo : lo ≤ w.heap.size) (h : Owns w lo w.heap.size 9 1 n a c (strCells O)) :
    Calls Tryz.prog 107 #[.slice a n c] w (RetUniq w lo a c O) := by
  rcases Nat.eq_zero_or_pos n with h0 | h0
  · subst h0
    have hO : O = [] := List.length_eq_zero_iff.1 hn
    subst hO
    have c1 := Any.slices_Sort_string_none (P := Tryz.prog) Tryz.lays190 a c w
    have c2 := Any.slices_Compact_string_empty (P := Tryz.prog) Tryz.lays194 a c w
    have C1 : Calls Tryz.prog 139 #[.slice a 0 c] w (fun e w' => e = .returned (.tuple #[]) ∧ w' = w) := c1
    have C2 : Calls Tryz.prog 140 #[.slice a 0 c] w (fun e w' => e = .returned (.slice a 0 c) ∧ w' = w) := c2
    clear c1 c2
    have hU : uniq [] = [] := List.length_eq_zero_iff.1 (Nat.le_zero.1 (uniq_le []))
    replace C1 := Lib.hid C1
    replace C2 := Lib.hid C2
    replace h := Lib.hid h
    replace hU := Lib.hid hU
    go_enter Tryz.func107, Tryz.ntmps107
    go_wp2_with (first | (go_at_call 139; (with_reducible refine C1.out.mono ?_); rintro e w' ⟨rfl, rfl⟩) | (go_at_call 140; (with_reducible refine C2.out.mono ?_); rintro e w' ⟨rfl, rfl⟩))
    go_ret
    refine ⟨by rw [hU.out]; rfl, ?_, Below.refl _ _⟩
    rw [hU.out]
    exact h.out
  · obtain ⟨g, rfl, hg1, hg2, _, _⟩ := h.at_ (j := 0) (by omega)
    obtain ⟨cap, cur, hv, hge, hb, k1, k2, k3, k4⟩ : ∃ cap cur, (Value.slice (some ⟨g, 0, none⟩) n c : Value) = .slice (some ⟨g, 0, none⟩) n cap ∧ lo ≤ g ∧ w.heap[g]? = some (.cells cur 9 (0, 0)) ∧ n ≤ cap ∧ cap ≤ maxLen ∧ cur.size = cap * 1 ∧ cur.toList.take (n * 1) = strCells O := by
      rcases h.own.2 with ⟨hv, _⟩ | ⟨g', cap, cur, hv, hg, hh, r⟩
      · cases hv
      · cases hv
        exact ⟨c, cur, rfl, hg, hh, r⟩
    cases hv
    have e1 : (ups O).length = n := by rw [(ups_perm O).length_eq, List.length_map, hn]
    have e2 : (O.map key).length = n := by rw [List.length_map, hn]
    have hH := holds_of_block (ss := O.map key) hb (by rw [e2, enc_keys]; simpa using k4)
    have c1 := Any.slices_Sort_string (P := Tryz.prog) Tryz.lays190 g 0 c (O.map key) w hH hg2 (by omega)
    rw [e2] at c1
    have C1 : Calls Tryz.prog 139 #[.slice (some ⟨g, 0, none⟩) n c] w (fun e w' => e = .returned (.tuple #[]) ∧ ∃ m os, w' = Go.Sort.grow (Go.Sort.putRow encStr (Go.Sort.ahead w m) g 0 (ups O).toArray) os) := c1
    have C2 : ∀ m os, Calls Tryz.prog 140 #[.slice (some ⟨g, 0, none⟩) n c] (Go.Sort.grow (Go.Sort.putRow encStr (Go.Sort.ahead w m) g 0 (ups O).toArray) os) (RetUniq w lo (some ⟨g, 0, none⟩) c O) := fun m os => by
      have hb1 := heap_sorted (n := m) (os := os) (ups O).toArray hb
      have ho1 := ownsRow_sorted (n := m) (os := os) (ts := ups O) (ss := ups O) rfl hge hb (by omega) k2 k3
      obtain ⟨W1, hW1⟩ : ∃ W, Go.Sort.grow (Go.Sort.putRow encStr (Go.Sort.ahead w m) g 0 (ups O).toArray) os = W := ⟨_, rfl⟩
      have hbt := btw_putS w g m (ups O).toArray os
      rw [hW1] at hb1 ho1 hbt ⊢
      have hcs : (Go.Sort.putCells encStr 0 (ups O).toArray cur).size = c * 1 := by simpa [Go.Sort.putCells] using k3
      have hH1 := holds_of_block (ss := ups O) hb1 (by exact Go.take_putCells cur (ups O) (by omega))
      have c2 := Any.slices_Compact_string (P := Tryz.prog) Tryz.lays194 g 0 c (ups O) W1 hH1 (by omega) (by omega)
      rw [e1] at c2
      have hle := uniq_le O
      have hul : (uniq O).length = (Lib.compact (ups O)).length := by unfold uniq; rw [List.length_map]
      refine Calls.mono (show Calls Tryz.prog 140 _ _ _ from c2) ?_
      rintro e w' ⟨rfl, q, rfl⟩
      have hl2 : (Lib.compact (ups O) ++ List.replicate (n - (Lib.compact (ups O)).length) []).length = (ups O).length := by
        rw [List.length_append, List.length_replicate]; omega
      have ho2 := ownsRow_sorted (n := q) (os := #[]) (ts := Lib.compact (ups O) ++ List.replicate (n - (Lib.compact (ups O)).length) []) (ss := ups O) hl2 hge hb1 (by omega) k2 hcs
      have hb2 := btw_putS W1 g q (Lib.compact (ups O) ++ List.replicate (n - (Lib.compact (ups O)).length) []).toArray #[]
      rw [Go.Sort.grow_empty] at ho2 hb2
      rw [e1] at ho2
      have ho3 := own_shorter ho2 (n' := (uniq O).length) (by omega)
      rw [List.map_append, List.take_append_of_le_length (by rw [List.length_map]; omega), List.take_of_length_le (by rw [List.length_map]; omega), enc_mkB] at ho3
      have hbb := hbt.trans hb2
      refine ⟨by rw [hul], Owns.of ho3, hbb.os, hbb.tape, hbb.output, hbb.size, fun k hk => hbb.block k (by omega) (.inl (by omega))⟩
    replace C1 := Lib.hid C1
    replace C2 := Lib.hid C2
    clear hH c1 hb h
    go_enter Tryz.func107, Tryz.ntmps107
    go_wp2_with (first | (go_at_call 139; (with_reducible refine C1.out.mono ?_); rintro e w' ⟨rfl, m, os, rfl⟩) | (go_at_call 140; (with_reducible refine (C2.out m os).mono ?_); rintro e w' ⟨rfl, hO, hB⟩))
    go_ret
    exact ⟨rfl, hO, hB⟩
end Go.Proofs.YtcpddgkloeklaaaGreatDoor

/- Texts in order, each once: spec.l08Insert. -/
set_option linter.unusedSimpArgs false
set_option linter.unusedVariables false
namespace Go.Proofs.YtcpddgkloeklaaaGreatDoor
open Go.RowKit
def insB (s : ByteArray) : List ByteArray → List ByteArray
  | [] => [s]
  | t :: l => if key t < key s then t :: insB s l else if key t = key s then t :: l else s :: t :: l
theorem insB_up {s : ByteArray} : ∀ {A : List ByteArray} {k : Nat}, k ≤ A.length → (∀ j (hj : j < A.length), j < k → key A[j] < key s) → insB s A = A.take k ++ insB s (A.drop k)
  | A, 0, _, _ => by simp
  | [], k + 1, hk, _ => by simp at hk
  | t :: A, k + 1, hk, h => by
    have h0 : key t < key s := h 0 (by simp) (by omega)
    rw [insB, if_pos h0, List.take_succ_cons, List.drop_succ_cons, List.cons_append, insB_up (A := A) (k := k) (by simpa using hk) fun j hj hjk => h (j + 1) (by simpa using hj) (by omega)]
theorem insB_same {s : ByteArray} {A : List ByteArray} {k : Nat} (hk : k < A.length) (h : ∀ j (hj : j < A.length), j < k → key A[j] < key s) (he : key A[k] = key s) : insB s A = A := by
  rw [insB_up (Nat.le_of_lt hk) h, List.drop_eq_getElem_cons hk, insB, if_neg (by rw [he]; exact List.lt_irrefl _), if_pos he, ← List.drop_eq_getElem_cons hk, List.take_append_drop]
theorem insB_new {s : ByteArray} {A : List ByteArray} {k : Nat} (hk : k ≤ A.length) (h : ∀ j (hj : j < A.length), j < k → key A[j] < key s) (hn : ∀ hk : k < A.length, ¬ key A[k] < key s ∧ ¬ key A[k] = key s) : insB s A = A.take k ++ [s] ++ A.drop k := by
  rw [insB_up hk h, List.append_assoc]
  congr 1
  rcases Nat.lt_or_ge k A.length with h1 | h1
  · rw [List.drop_eq_getElem_cons h1, insB, if_neg (hn h1).1, if_neg (hn h1).2]; rfl
  · rw [List.drop_eq_nil_of_le h1]; rfl
theorem insB_mem (s t : ByteArray) : ∀ A : List ByteArray, t ∈ insB s A ↔ t = s ∨ t ∈ A
  | [] => by simp [insB]
  | u :: A => by
    rw [insB]
    split
    · rw [List.mem_cons, insB_mem s t A, List.mem_cons]
      constructor
      · rintro (h | h | h)
        · exact .inr (.inl h)
        · exact .inl h
        · exact .inr (.inr h)
      · rintro (h | h | h)
        · exact .inr (.inl h)
        · exact .inl h
        · exact .inr (.inr h)
    · split
      · rename_i h1 h2
        have e := key_inj h2
        subst e
        constructor
        · exact .inr
        · rintro (h | h)
          · subst h; simp
          · exact h
      · rw [List.mem_cons, List.mem_cons]
theorem insB_sorted (s : ByteArray) : ∀ A : List ByteArray, (A.map key).Pairwise (· < ·) → ((insB s A).map key).Pairwise (· < ·)
  | [], _ => by simp [insB]
  | u :: A, h => by
    have h' := List.pairwise_cons.1 h
    rw [insB]
    split
    · rename_i h1
      rw [List.map_cons, List.pairwise_cons]
      refine ⟨fun x hx => ?_, insB_sorted s A h'.2⟩
      obtain ⟨t, ht, rfl⟩ := List.mem_map.1 hx
      rcases (insB_mem s t A).1 ht with rfl | h2
      · exact h1
      · exact h'.1 _ (List.mem_map.2 ⟨t, h2, rfl⟩)
    · split
      · exact h
      · rename_i h1 h2
        have h3 : key s < key u := klt_of (List.not_lt.1 h1) (fun e => h2 e.symm)
        rw [List.map_cons, List.pairwise_cons]
        refine ⟨fun x hx => ?_, h⟩
        rw [List.map_cons, List.mem_cons] at hx
        rcases hx with rfl | hx
        · exact h3
        · exact List.lt_trans h3 (h'.1 x hx)
theorem insB_le (s : ByteArray) : ∀ A : List ByteArray, (insB s A).length ≤ A.length + 1
  | [] => by simp [insB]
  | u :: A => by
    have := insB_le s A
    rw [insB]
    split
    · simp; omega
    · split <;> simp
/-- All of them, put in one after the other. -/
def insAll (O : List ByteArray) : List ByteArray := O.foldl (fun A s => insB s A) []
theorem insAll_uniq (O : List ByteArray) : insAll O = uniq O := by
  have key1 : ∀ (O A : List ByteArray), (A.map key).Pairwise (· < ·) → ((O.foldl (fun A s => insB s A) A).map key).Pairwise (· < ·) ∧ ∀ t, t ∈ O.foldl (fun A s => insB s A) A ↔ t ∈ A ∨ t ∈ O := by
    intro O
    induction O with
    | nil => intro A hA; exact ⟨hA, fun t => by simp⟩
    | cons s O ih =>
      intro A hA
      obtain ⟨h1, h2⟩ := ih (insB s A) (insB_sorted s A hA)
      refine ⟨h1, fun t => ?_⟩
      rw [List.foldl_cons, h2, insB_mem, List.mem_cons]
      constructor
      · rintro ((h | h) | h)
        · exact .inr (.inl h)
        · exact .inl h
        · exact .inr (.inr h)
      · rintro (h | h | h)
        · exact .inl (.inr h)
        · exact .inl (.inl h)
        · exact .inr h
  obtain ⟨h1, h2⟩ := key1 O [] (by simp)
  obtain ⟨h3, h4⟩ := uniq_spec O
  exact sorted_keys h1 h3 fun s => by rw [show insAll O = O.foldl (fun A s => insB s A) [] from rfl, h2, h4]; simp
/-- The call handed back texts that lie in memory from a place on. -/
def RetTexts (lo : Nat) (w : World) (A : List ByteArray) (e : Ending) (w' : World) : Prop :=
  ∃ (a : Option Addr) (c : Nat), e = .returned (.slice a A.length c) ∧ Owns w' lo w'.heap.size 9 1 A.length a c (strCells A) ∧ ∃ y : Later w, w' = y.w
theorem cells3 (A B : List ByteArray) (s : ByteArray) : strCells (A ++ [s] ++ B) = strCells A ++ [.string s] ++ strCells B := by simp [strCells]
theorem tl (s : ByteArray) : s.toList = key s := ByteArray.toList_eq s
theorem bytes_lt_yes {s t : ByteArray} (h : key s < key t) : Op.bytesLess s.toList t.toList = true := by rw [tl, tl, bytesLess_eq]; exact decide_eq_true h
theorem bytes_lt_no {s t : ByteArray} (h : ¬ key s < key t) : Op.bytesLess s.toList t.toList = false := by rw [tl, tl, bytesLess_eq]; exact decide_eq_false h
theorem bytes_eq_yes {s t : ByteArray} (h : key s = key t) : (s.toList == t.toList) = true := by rw [tl, tl, h]; simp
theorem bytes_eq_no {s t : ByteArray} (h : ¬ key s = key t) : (s.toList == t.toList) = false := by rw [tl, tl]; simpa using h
theorem Row.str_take {w : World} {a : Option Addr} {S : List ByteArray} (h : Row w a (strCells S)) (k : Nat) : Row w a (strCells (S.take k)) := fun j v hj => by
  refine h j v ?_
  unfold strCells at *
  rw [List.map_take] at hj
  exact (List.getElem?_take_of_lt (by have := (List.getElem?_eq_some_iff.1 hj).1; simp at this; omega)).symm.trans hj
theorem Row.str_drop {w : World} {b o : Nat} {S : List ByteArray} (h : Row w (some ⟨b, o, none⟩) (strCells S)) (k : Nat) : Row w (some ⟨b, o + k, none⟩) (strCells (S.drop k)) := fun j v hj => by
  unfold strCells at *
  rw [List.map_drop, List.getElem?_drop] at hj
  obtain ⟨b', o', e, hc⟩ := h (k + j) v hj
  cases e
  exact ⟨b, o + k, rfl, by rw [Nat.add_assoc]; exact hc⟩
theorem RetTexts.mk {lo : Nat} {w w' : World} {A B : List ByteArray} {a : Option Addr} {n m c : Nat} (h : A = B) (ho : w'.ownsRow lo 9 1 (.slice a m c) m (strCells B)) (hmn : m = n) (hn : B.length = n) (hb : Below w.heap.size w w') : RetTexts lo w A (.returned (.slice a n c)) w' := by
  subst h hmn hn
  exact ⟨a, c, rfl, Owns.of ho, ⟨w', hb⟩, rfl⟩
set_option maxRecDepth 40000 in
set_option maxHeartbeats 8000000 in
theorem sInsert_any (A : List ByteArray) (s : ByteArray) (a : Option Addr) (n c lo : Nat) (w : World) (hn : A.length = n) (hm : n ≤ 1000) (hlo : lo ≤ w.heap.size) (h : Owns w lo w.heap.size 9 1 n a c (strCells A)) :
    Calls Tryz.prog 106 #[.slice a n c, .string s] w (RetTexts lo w (insB s A)) := by
  subst hn
  have HO := Lib.hid h
  have hsh := h.shp
  have hcap := hsh.cap
  have hnil := hsh.nil
  have hspot := hsh.spot
  obtain ⟨ii, j1, j2, j3, j4⟩ := info_str'
  have Jii := Lib.hid (And.intro j1 (And.intro j2 (And.intro j3 j4)))
  clear h hsh j1 j2 j3 j4
  by_cases hnn : a = none
  · subst hnn
    obtain rfl := hnil rfl
    have hA : A = [] := List.length_eq_zero_iff.1 (by omega)
    subst hA
    have X := Lib.hid (show insB s [] = [] ++ [s] ++ [] from rfl)
    obtain ⟨S1, hS1⟩ : ∃ S : List ByteArray, [] = S := ⟨_, rfl⟩
    have hr1 := Lib.hid (show Row w none (strCells S1) by rw [← hS1]; exact Row.nil _ _)
    have hr2 := Lib.hid (fun (w : World) (a : Option Addr) => show Row w a (strCells S1) by rw [← hS1]; exact Row.nil _ _)
    have hL1 : S1.length = 0 := by rw [← hS1]; rfl
    have hL3 := length_strCells S1
    obtain ⟨S2, hS2⟩ : ∃ S, S1 = S := ⟨_, rfl⟩
    have X2 := Lib.hid (show insB s [] = S1 ++ [s] ++ S2 by rw [← hS2, ← hS1]; rfl)
    have hL2 : S2.length = 0 := by rw [← hS2]; exact hL1
    have hL4 := length_strCells S2
    have hr2 := Lib.hid (fun (w : World) (a : Option Addr) => show Row w a (strCells S2) by rw [← hS2]; exact hr2.out w a)
    replace X := X2
    clear hS1 hS2 X2
    go_enter Tryz.func106, Tryz.ntmps106
    go_wp2_with fail
    go_loopw [5] (fun i wr => i = .int .i64 0 ∧ ∃ z : Later w, wr = z.w) (fun i _ => 0)
    case atStart => exact ⟨rfl, LaterC.mk (by (repeat (first | (with_reducible exact Below.refl _ _) | (with_reducible assumption) | (with_reducible refine Later.out _ ?_) | (with_reducible refine bel_alloc ?_ _) | (with_reducible refine bel_drew ?_) | (with_reducible refine bel_drewN ?_ _) | (with_reducible refine bel_set ?_ ?_ _) | (with_reducible refine After.out _ ?_ ?_) | (dsimp only; omega) | omega | (simp only [World.size_alloc, World.size_setCell, World.size_drew]; omega))))⟩
    case round =>
      obtain ⟨rfl, z, rfl⟩ := hrel
      have hzz := z.bel.size
      have hlz : lo ≤ z.w.heap.size := by omega
      go_wp2_with fail
      refine wp_region_float 6 [(1, true), (2, true), (3, true), (5, true), (8, true), (9, true), (10, true), (0, false), (4, false), (6, false), (7, false), (11, false), (12, true)] (C := LaterC _) (by kernel_rfl) (by kernel_rfl) (by kernel_rfl) rfl (fun _ _ d _ _ h => by cases d <;> exact h) (LaterC.mk ((Below.refl _ _).drew)) ?_
      repeat (any_goals (first | (with_reducible apply plan_nil) | ((with_reducible apply float_quiet); (first | (with_reducible exact nth0) | (with_reducible exact nth1) | (with_reducible exact nth2) | (with_reducible exact nth3) | (with_reducible exact nth4) | (with_reducible exact nth5) | (with_reducible exact nth6) | (with_reducible exact nth7) | (with_reducible exact nth8) | (with_reducible exact nth9) | (with_reducible exact nth10) | (with_reducible exact nth11) | (with_reducible exact nth12) | (with_reducible exact nth13) | (with_reducible exact nth14) | (with_reducible exact nth15) | (with_reducible exact nth16) | (with_reducible exact nth17) | (with_reducible exact nth18) | (with_reducible exact nth19) | (with_reducible exact nth20) | (with_reducible exact nth21) | (with_reducible exact nth22) | (with_reducible exact nth23)); rfl; intro KP hKP; go_big_quiet_op; go_big_quiet_on) | ((with_reducible apply float_skip); (first | (with_reducible exact nth0) | (with_reducible exact nth1) | (with_reducible exact nth2) | (with_reducible exact nth3) | (with_reducible exact nth4) | (with_reducible exact nth5) | (with_reducible exact nth6) | (with_reducible exact nth7) | (with_reducible exact nth8) | (with_reducible exact nth9) | (with_reducible exact nth10) | (with_reducible exact nth11) | (with_reducible exact nth12) | (with_reducible exact nth13) | (with_reducible exact nth14) | (with_reducible exact nth15) | (with_reducible exact nth16) | (with_reducible exact nth17) | (with_reducible exact nth18) | (with_reducible exact nth19) | (with_reducible exact nth20) | (with_reducible exact nth21) | (with_reducible exact nth22) | (with_reducible exact nth23)); rfl; rfl; simp only [Act.put, List.setIfInBounds_toArray, List.set_cons_zero, List.set_cons_succ]) | ((with_reducible apply plan_quiet); (first | (with_reducible exact nth0) | (with_reducible exact nth1) | (with_reducible exact nth2) | (with_reducible exact nth3) | (with_reducible exact nth4) | (with_reducible exact nth5) | (with_reducible exact nth6) | (with_reducible exact nth7) | (with_reducible exact nth8) | (with_reducible exact nth9) | (with_reducible exact nth10) | (with_reducible exact nth11) | (with_reducible exact nth12) | (with_reducible exact nth13) | (with_reducible exact nth14) | (with_reducible exact nth15) | (with_reducible exact nth16) | (with_reducible exact nth17) | (with_reducible exact nth18) | (with_reducible exact nth19) | (with_reducible exact nth20) | (with_reducible exact nth21) | (with_reducible exact nth22) | (with_reducible exact nth23)); rfl; intro KP hKP; go_big_quiet_op; go_big_quiet_on) | ((with_reducible apply plan_skip_q); (first | (with_reducible exact nth0) | (with_reducible exact nth1) | (with_reducible exact nth2) | (with_reducible exact nth3) | (with_reducible exact nth4) | (with_reducible exact nth5) | (with_reducible exact nth6) | (with_reducible exact nth7) | (with_reducible exact nth8) | (with_reducible exact nth9) | (with_reducible exact nth10) | (with_reducible exact nth11) | (with_reducible exact nth12) | (with_reducible exact nth13) | (with_reducible exact nth14) | (with_reducible exact nth15) | (with_reducible exact nth16) | (with_reducible exact nth17) | (with_reducible exact nth18) | (with_reducible exact nth19) | (with_reducible exact nth20) | (with_reducible exact nth21) | (with_reducible exact nth22) | (with_reducible exact nth23)); rfl; rfl; simp only [Act.put, List.setIfInBounds_toArray, List.set_cons_zero, List.set_cons_succ]) | ((with_reducible apply plan_loud); (first | (with_reducible exact nth0) | (with_reducible exact nth1) | (with_reducible exact nth2) | (with_reducible exact nth3) | (with_reducible exact nth4) | (with_reducible exact nth5) | (with_reducible exact nth6) | (with_reducible exact nth7) | (with_reducible exact nth8) | (with_reducible exact nth9) | (with_reducible exact nth10) | (with_reducible exact nth11) | (with_reducible exact nth12) | (with_reducible exact nth13) | (with_reducible exact nth14) | (with_reducible exact nth15) | (with_reducible exact nth16) | (with_reducible exact nth17) | (with_reducible exact nth18) | (with_reducible exact nth19) | (with_reducible exact nth20) | (with_reducible exact nth21) | (with_reducible exact nth22) | (with_reducible exact nth23)); rfl; intro KP hKP; ((refine oper_append_at _ _ _ _ rfl 9 ii _ 1 16 Tryz.underlying37 Jii.out.1 Jii.out.2.1 Jii.out.2.2.1 Jii.out.2.2.2 rfl (by decide) _ _ rfl ?qc113 ?qc114 _ _ _ (strCells S1) rfl ?qc115 ?qc116 ?qc117 ?qc118 ?qc119 ?_); (case qc113 => (first | (dsimp only; omega) | omega | (simp only [World.size_alloc, World.size_setCell, World.size_drew]; omega))); (case qc114 => (first | exact lit0_at (W := z.w.drew) rfl (Nat.le_refl _) (Below.refl _ _) | exact lit0_at (W := z.w.drew) rfl (Nat.le_refl _) ((Below.refl _ _).alloc (Nat.le_refl _) _) | exact lit0_at (W := z.w.drew.alloc (.cells #[.string s] 9)) (by simp only [World.size_alloc, World.size_drew]) (by simp only [World.size_alloc, World.size_drew]; omega) (Below.refl _ _))); (case qc115 => (first | rfl | (simp; done) | (first | omega | (simp only [List.length_append, List.length_cons, List.length_nil]; omega)))); (case qc116 => exact hr1.out.bel (by (repeat (first | (with_reducible exact Below.refl _ _) | (with_reducible assumption) | (with_reducible refine Later.out _ ?_) | (with_reducible refine bel_alloc ?_ _) | (with_reducible refine bel_drew ?_) | (with_reducible refine bel_drewN ?_ _) | (with_reducible refine bel_set ?_ ?_ _) | (with_reducible refine After.out _ ?_ ?_) | (dsimp only; omega) | omega | (simp only [World.size_alloc, World.size_setCell, World.size_drew]; omega))))); (case qc117 => exact one_str S1); (case qc118 => (unfold maxLen; (first | omega | (simp only [List.length_append, List.length_cons, List.length_nil]; omega)))); (case qc119 => (first | omega | (simp only [List.length_append, List.length_cons, List.length_nil]; omega))); intro a6 c6 x6 hown6; replace hown6 := Lib.hid hown6); refine hKP _ _ (LaterC.mk (by (repeat (first | (with_reducible exact Below.refl _ _) | (with_reducible assumption) | (with_reducible refine Later.out _ ?_) | (with_reducible refine bel_alloc ?_ _) | (with_reducible refine bel_drew ?_) | (with_reducible refine bel_drewN ?_ _) | (with_reducible refine bel_set ?_ ?_ _) | (with_reducible refine After.out _ ?_ ?_) | (dsimp only; omega) | omega | (simp only [World.size_alloc, World.size_setCell, World.size_drew]; omega))))) ?_; clear hKP KP) | ((with_reducible apply plan_loud); (first | (with_reducible exact nth0) | (with_reducible exact nth1) | (with_reducible exact nth2) | (with_reducible exact nth3) | (with_reducible exact nth4) | (with_reducible exact nth5) | (with_reducible exact nth6) | (with_reducible exact nth7) | (with_reducible exact nth8) | (with_reducible exact nth9) | (with_reducible exact nth10) | (with_reducible exact nth11) | (with_reducible exact nth12) | (with_reducible exact nth13) | (with_reducible exact nth14) | (with_reducible exact nth15) | (with_reducible exact nth16) | (with_reducible exact nth17) | (with_reducible exact nth18) | (with_reducible exact nth19) | (with_reducible exact nth20) | (with_reducible exact nth21) | (with_reducible exact nth22) | (with_reducible exact nth23)); rfl; intro KP hKP; ((refine oper_append_later _ _ _ _ rfl 9 ii _ 1 16 Tryz.underlying37 Jii.out.1 Jii.out.2.1 Jii.out.2.2.1 Jii.out.2.2.2 rfl (by decide) (z.w) ?qa1 _ _ _ (strCells S1) rfl ?qa2 _ _ _ ([.string s]) rfl ?qa3 ?qa4 ?qa5 ?qa6 ?qa7 ?_); (case qa1 => (repeat (first | (with_reducible exact Below.refl _ _) | (with_reducible assumption) | (with_reducible refine Later.out _ ?_) | (with_reducible refine bel_alloc ?_ _) | (with_reducible refine bel_drew ?_) | (with_reducible refine bel_drewN ?_ _) | (with_reducible refine bel_set ?_ ?_ _) | (with_reducible refine After.out _ ?_ ?_) | (dsimp only; omega) | omega | (simp only [World.size_alloc, World.size_setCell, World.size_drew]; omega)))); (case qa2 => exact own_mono (own_bel hown6.out (by (repeat (first | (with_reducible exact Below.refl _ _) | (with_reducible assumption) | (with_reducible refine Later.out _ ?_) | (with_reducible refine bel_alloc ?_ _) | (with_reducible refine bel_drew ?_) | (with_reducible refine bel_drewN ?_ _) | (with_reducible refine bel_set ?_ ?_ _) | (with_reducible refine After.out _ ?_ ?_) | (dsimp only; omega) | omega | (simp only [World.size_alloc, World.size_setCell, World.size_drew]; omega))))) (by first | exact Nat.le_refl _ | omega | (simp only [World.size_alloc, World.size_drew]; omega))); (case qa3 => (first | rfl | (simp [boolCells]; done) | (simp [intCells]; done) | (simp; done) | (first | omega | (simp only [List.length_append, List.length_cons, List.length_nil]; omega)))); (case qa4 => (first | exact Row.madeAt (by first | rfl | (simp only [World.size_alloc, World.size_drew])) rfl | exact ((Row.madeAt (w := z.w.alloc (.cells #[] 9)) (cs := #[.string s]) (e := 9) (by simp only [World.size_alloc]) rfl).bel ((Below.refl _ _).drew)).btw x6.btw (fun p hp => by cases hp; first | (dsimp only; omega) | (simp only [World.size_alloc, World.size_drew]; omega)) | exact (((Row.madeAt (w := z.w) (cs := #[.string s]) (e := 9) rfl rfl).alloc (.cells #[] 9)).bel ((Below.refl _ _).drew)).btw x6.btw (fun p hp => by cases hp; first | (dsimp only; omega) | (simp only [World.size_alloc, World.size_drew]; omega)))); (case qa5 => exact one_str1 s); (case qa6 => (unfold maxLen; (first | omega | (simp only [List.length_append, List.length_cons, List.length_nil]; omega)))); (case qa7 => (first | omega | (simp only [List.length_append, List.length_cons, List.length_nil]; omega))); intro a7 c7 x7 hown7; replace hown7 := Lib.hid hown7); refine hKP _ _ (LaterC.mk (by (repeat (first | (with_reducible exact Below.refl _ _) | (with_reducible assumption) | (with_reducible refine Later.out _ ?_) | (with_reducible refine bel_alloc ?_ _) | (with_reducible refine bel_drew ?_) | (with_reducible refine bel_drewN ?_ _) | (with_reducible refine bel_set ?_ ?_ _) | (with_reducible refine After.out _ ?_ ?_) | (dsimp only; omega) | omega | (simp only [World.size_alloc, World.size_setCell, World.size_drew]; omega))))) ?_; clear hKP KP) | ((with_reducible apply plan_loud); (first | (with_reducible exact nth0) | (with_reducible exact nth1) | (with_reducible exact nth2) | (with_reducible exact nth3) | (with_reducible exact nth4) | (with_reducible exact nth5) | (with_reducible exact nth6) | (with_reducible exact nth7) | (with_reducible exact nth8) | (with_reducible exact nth9) | (with_reducible exact nth10) | (with_reducible exact nth11) | (with_reducible exact nth12) | (with_reducible exact nth13) | (with_reducible exact nth14) | (with_reducible exact nth15) | (with_reducible exact nth16) | (with_reducible exact nth17) | (with_reducible exact nth18) | (with_reducible exact nth19) | (with_reducible exact nth20) | (with_reducible exact nth21) | (with_reducible exact nth22) | (with_reducible exact nth23)); rfl; intro KP hKP; ((refine oper_append_later _ _ _ _ rfl 9 ii _ 1 16 Tryz.underlying37 Jii.out.1 Jii.out.2.1 Jii.out.2.2.1 Jii.out.2.2.2 rfl (by decide) (z.w) ?qa8 _ _ _ (strCells S1 ++ [.string s]) rfl ?qa9 _ _ _ (strCells S2) rfl ?qa10 ?qa11 ?qa12 ?qa13 ?qa14 ?_); (case qa8 => (repeat (first | (with_reducible exact Below.refl _ _) | (with_reducible assumption) | (with_reducible refine Later.out _ ?_) | (with_reducible refine bel_alloc ?_ _) | (with_reducible refine bel_drew ?_) | (with_reducible refine bel_drewN ?_ _) | (with_reducible refine bel_set ?_ ?_ _) | (with_reducible refine After.out _ ?_ ?_) | (dsimp only; omega) | omega | (simp only [World.size_alloc, World.size_setCell, World.size_drew]; omega)))); (case qa9 => exact own_bel hown7.out (by (repeat (first | (with_reducible exact Below.refl _ _) | (with_reducible assumption) | (with_reducible refine Later.out _ ?_) | (with_reducible refine bel_alloc ?_ _) | (with_reducible refine bel_drew ?_) | (with_reducible refine bel_drewN ?_ _) | (with_reducible refine bel_set ?_ ?_ _) | (with_reducible refine After.out _ ?_ ?_) | (dsimp only; omega) | omega | (simp only [World.size_alloc, World.size_setCell, World.size_drew]; omega))))); (case qa10 => (first | rfl | (simp [boolCells]; done) | (simp [intCells]; done) | (simp; done) | (first | omega | (simp only [List.length_append, List.length_cons, List.length_nil]; omega)))); (case qa11 => exact hr2.out _ _); (case qa12 => exact one_str S2); (case qa13 => (unfold maxLen; (first | omega | (simp only [List.length_append, List.length_cons, List.length_nil]; omega)))); (case qa14 => (first | omega | (simp only [List.length_append, List.length_cons, List.length_nil]; omega))); intro a8 c8 x8 hown8; replace hown8 := Lib.hid hown8); refine hKP _ _ (LaterC.mk (by (repeat (first | (with_reducible exact Below.refl _ _) | (with_reducible assumption) | (with_reducible refine Later.out _ ?_) | (with_reducible refine bel_alloc ?_ _) | (with_reducible refine bel_drew ?_) | (with_reducible refine bel_drewN ?_ _) | (with_reducible refine bel_set ?_ ?_ _) | (with_reducible refine After.out _ ?_ ?_) | (dsimp only; omega) | omega | (simp only [World.size_alloc, World.size_setCell, World.size_drew]; omega))))) ?_; clear hKP KP) | ((with_reducible apply float_fork); rfl; (first | (with_reducible exact nth0) | (with_reducible exact nth1) | (with_reducible exact nth2) | (with_reducible exact nth3) | (with_reducible exact nth4) | (with_reducible exact nth5) | (with_reducible exact nth6) | (with_reducible exact nth7) | (with_reducible exact nth8) | (with_reducible exact nth9) | (with_reducible exact nth10) | (with_reducible exact nth11) | (with_reducible exact nth12) | (with_reducible exact nth13) | (with_reducible exact nth14) | (with_reducible exact nth15) | (with_reducible exact nth16) | (with_reducible exact nth17) | (with_reducible exact nth18) | (with_reducible exact nth19) | (with_reducible exact nth20) | (with_reducible exact nth21) | (with_reducible exact nth22) | (with_reducible exact nth23)); (first | (with_reducible exact nth0) | (with_reducible exact nth1) | (with_reducible exact nth2) | (with_reducible exact nth3) | (with_reducible exact nth4) | (with_reducible exact nth5) | (with_reducible exact nth6) | (with_reducible exact nth7) | (with_reducible exact nth8) | (with_reducible exact nth9) | (with_reducible exact nth10) | (with_reducible exact nth11) | (with_reducible exact nth12) | (with_reducible exact nth13) | (with_reducible exact nth14) | (with_reducible exact nth15) | (with_reducible exact nth16) | (with_reducible exact nth17) | (with_reducible exact nth18) | (with_reducible exact nth19) | (with_reducible exact nth20) | (with_reducible exact nth21) | (with_reducible exact nth22) | (with_reducible exact nth23)); rfl; rfl; (intro KP hKP; ((refine oper_append_at _ _ _ _ rfl 9 ii _ 1 16 Tryz.underlying37 Jii.out.1 Jii.out.2.1 Jii.out.2.2.1 Jii.out.2.2.2 rfl (by decide) _ _ rfl ?qc120 ?qc121 _ _ _ (strCells S1) rfl ?qc122 ?qc123 ?qc124 ?qc125 ?qc126 ?_); (case qc120 => (first | (dsimp only; omega) | omega | (simp only [World.size_alloc, World.size_setCell, World.size_drew]; omega))); (case qc121 => (first | exact lit0_at (W := z.w.drew) rfl (Nat.le_refl _) (Below.refl _ _) | exact lit0_at (W := z.w.drew) rfl (Nat.le_refl _) ((Below.refl _ _).alloc (Nat.le_refl _) _) | exact lit0_at (W := z.w.drew.alloc (.cells #[.string s] 9)) (by simp only [World.size_alloc, World.size_drew]) (by simp only [World.size_alloc, World.size_drew]; omega) (Below.refl _ _))); (case qc122 => (first | rfl | (simp; done) | (first | omega | (simp only [List.length_append, List.length_cons, List.length_nil]; omega)))); (case qc123 => exact hr1.out.bel (by (repeat (first | (with_reducible exact Below.refl _ _) | (with_reducible assumption) | (with_reducible refine Later.out _ ?_) | (with_reducible refine bel_alloc ?_ _) | (with_reducible refine bel_drew ?_) | (with_reducible refine bel_drewN ?_ _) | (with_reducible refine bel_set ?_ ?_ _) | (with_reducible refine After.out _ ?_ ?_) | (dsimp only; omega) | omega | (simp only [World.size_alloc, World.size_setCell, World.size_drew]; omega))))); (case qc124 => exact one_str S1); (case qc125 => (unfold maxLen; (first | omega | (simp only [List.length_append, List.length_cons, List.length_nil]; omega)))); (case qc126 => (first | omega | (simp only [List.length_append, List.length_cons, List.length_nil]; omega))); intro a6 c6 x6 hown6; replace hown6 := Lib.hid hown6); refine hKP _ _ (LaterC.mk (by (repeat (first | (with_reducible exact Below.refl _ _) | (with_reducible assumption) | (with_reducible refine Later.out _ ?_) | (with_reducible refine bel_alloc ?_ _) | (with_reducible refine bel_drew ?_) | (with_reducible refine bel_drewN ?_ _) | (with_reducible refine bel_set ?_ ?_ _) | (with_reducible refine After.out _ ?_ ?_) | (dsimp only; omega) | omega | (simp only [World.size_alloc, World.size_setCell, World.size_drew]; omega))))) ?_; clear hKP KP); rotate_left; (intro KP hKP; go_wp2_with fail; refine hKP _ _ (LaterC.mk (by (repeat (first | (with_reducible exact Below.refl _ _) | (with_reducible assumption) | (with_reducible refine Later.out _ ?_) | (with_reducible refine bel_alloc ?_ _) | (with_reducible refine bel_drew ?_) | (with_reducible refine bel_drewN ?_ _) | (with_reducible refine bel_set ?_ ?_ _) | (with_reducible refine After.out _ ?_ ?_) | (dsimp only; omega) | omega | (simp only [World.size_alloc, World.size_setCell, World.size_drew]; omega))))) ?_; clear hKP KP); (try simp only [List.filter, bne_self_eq_false, Nat.reduceBNe])) | ((with_reducible apply float_fork); rfl; (first | (with_reducible exact nth0) | (with_reducible exact nth1) | (with_reducible exact nth2) | (with_reducible exact nth3) | (with_reducible exact nth4) | (with_reducible exact nth5) | (with_reducible exact nth6) | (with_reducible exact nth7) | (with_reducible exact nth8) | (with_reducible exact nth9) | (with_reducible exact nth10) | (with_reducible exact nth11) | (with_reducible exact nth12) | (with_reducible exact nth13) | (with_reducible exact nth14) | (with_reducible exact nth15) | (with_reducible exact nth16) | (with_reducible exact nth17) | (with_reducible exact nth18) | (with_reducible exact nth19) | (with_reducible exact nth20) | (with_reducible exact nth21) | (with_reducible exact nth22) | (with_reducible exact nth23)); (first | (with_reducible exact nth0) | (with_reducible exact nth1) | (with_reducible exact nth2) | (with_reducible exact nth3) | (with_reducible exact nth4) | (with_reducible exact nth5) | (with_reducible exact nth6) | (with_reducible exact nth7) | (with_reducible exact nth8) | (with_reducible exact nth9) | (with_reducible exact nth10) | (with_reducible exact nth11) | (with_reducible exact nth12) | (with_reducible exact nth13) | (with_reducible exact nth14) | (with_reducible exact nth15) | (with_reducible exact nth16) | (with_reducible exact nth17) | (with_reducible exact nth18) | (with_reducible exact nth19) | (with_reducible exact nth20) | (with_reducible exact nth21) | (with_reducible exact nth22) | (with_reducible exact nth23)); rfl; rfl; (intro KP hKP; ((refine oper_append_later _ _ _ _ rfl 9 ii _ 1 16 Tryz.underlying37 Jii.out.1 Jii.out.2.1 Jii.out.2.2.1 Jii.out.2.2.2 rfl (by decide) (z.w) ?qa15 _ _ _ (strCells S1) rfl ?qa16 _ _ _ ([.string s]) rfl ?qa17 ?qa18 ?qa19 ?qa20 ?qa21 ?_); (case qa15 => (repeat (first | (with_reducible exact Below.refl _ _) | (with_reducible assumption) | (with_reducible refine Later.out _ ?_) | (with_reducible refine bel_alloc ?_ _) | (with_reducible refine bel_drew ?_) | (with_reducible refine bel_drewN ?_ _) | (with_reducible refine bel_set ?_ ?_ _) | (with_reducible refine After.out _ ?_ ?_) | (dsimp only; omega) | omega | (simp only [World.size_alloc, World.size_setCell, World.size_drew]; omega)))); (case qa16 => exact own_mono (own_bel hown6.out (by (repeat (first | (with_reducible exact Below.refl _ _) | (with_reducible assumption) | (with_reducible refine Later.out _ ?_) | (with_reducible refine bel_alloc ?_ _) | (with_reducible refine bel_drew ?_) | (with_reducible refine bel_drewN ?_ _) | (with_reducible refine bel_set ?_ ?_ _) | (with_reducible refine After.out _ ?_ ?_) | (dsimp only; omega) | omega | (simp only [World.size_alloc, World.size_setCell, World.size_drew]; omega))))) (by first | exact Nat.le_refl _ | omega | (simp only [World.size_alloc, World.size_drew]; omega))); (case qa17 => (first | rfl | (simp [boolCells]; done) | (simp [intCells]; done) | (simp; done) | (first | omega | (simp only [List.length_append, List.length_cons, List.length_nil]; omega)))); (case qa18 => (first | exact Row.madeAt (by first | rfl | (simp only [World.size_alloc, World.size_drew])) rfl | exact ((Row.madeAt (w := z.w.alloc (.cells #[] 9)) (cs := #[.string s]) (e := 9) (by simp only [World.size_alloc]) rfl).bel ((Below.refl _ _).drew)).btw x6.btw (fun p hp => by cases hp; first | (dsimp only; omega) | (simp only [World.size_alloc, World.size_drew]; omega)) | exact (((Row.madeAt (w := z.w) (cs := #[.string s]) (e := 9) rfl rfl).alloc (.cells #[] 9)).bel ((Below.refl _ _).drew)).btw x6.btw (fun p hp => by cases hp; first | (dsimp only; omega) | (simp only [World.size_alloc, World.size_drew]; omega)))); (case qa19 => exact one_str1 s); (case qa20 => (unfold maxLen; (first | omega | (simp only [List.length_append, List.length_cons, List.length_nil]; omega)))); (case qa21 => (first | omega | (simp only [List.length_append, List.length_cons, List.length_nil]; omega))); intro a7 c7 x7 hown7; replace hown7 := Lib.hid hown7); refine hKP _ _ (LaterC.mk (by (repeat (first | (with_reducible exact Below.refl _ _) | (with_reducible assumption) | (with_reducible refine Later.out _ ?_) | (with_reducible refine bel_alloc ?_ _) | (with_reducible refine bel_drew ?_) | (with_reducible refine bel_drewN ?_ _) | (with_reducible refine bel_set ?_ ?_ _) | (with_reducible refine After.out _ ?_ ?_) | (dsimp only; omega) | omega | (simp only [World.size_alloc, World.size_setCell, World.size_drew]; omega))))) ?_; clear hKP KP); rotate_left; (intro KP hKP; go_wp2_with fail; refine hKP _ _ (LaterC.mk (by (repeat (first | (with_reducible exact Below.refl _ _) | (with_reducible assumption) | (with_reducible refine Later.out _ ?_) | (with_reducible refine bel_alloc ?_ _) | (with_reducible refine bel_drew ?_) | (with_reducible refine bel_drewN ?_ _) | (with_reducible refine bel_set ?_ ?_ _) | (with_reducible refine After.out _ ?_ ?_) | (dsimp only; omega) | omega | (simp only [World.size_alloc, World.size_setCell, World.size_drew]; omega))))) ?_; clear hKP KP); (try simp only [List.filter, bne_self_eq_false, Nat.reduceBNe])) | ((with_reducible apply float_fork); rfl; (first | (with_reducible exact nth0) | (with_reducible exact nth1) | (with_reducible exact nth2) | (with_reducible exact nth3) | (with_reducible exact nth4) | (with_reducible exact nth5) | (with_reducible exact nth6) | (with_reducible exact nth7) | (with_reducible exact nth8) | (with_reducible exact nth9) | (with_reducible exact nth10) | (with_reducible exact nth11) | (with_reducible exact nth12) | (with_reducible exact nth13) | (with_reducible exact nth14) | (with_reducible exact nth15) | (with_reducible exact nth16) | (with_reducible exact nth17) | (with_reducible exact nth18) | (with_reducible exact nth19) | (with_reducible exact nth20) | (with_reducible exact nth21) | (with_reducible exact nth22) | (with_reducible exact nth23)); (first | (with_reducible exact nth0) | (with_reducible exact nth1) | (with_reducible exact nth2) | (with_reducible exact nth3) | (with_reducible exact nth4) | (with_reducible exact nth5) | (with_reducible exact nth6) | (with_reducible exact nth7) | (with_reducible exact nth8) | (with_reducible exact nth9) | (with_reducible exact nth10) | (with_reducible exact nth11) | (with_reducible exact nth12) | (with_reducible exact nth13) | (with_reducible exact nth14) | (with_reducible exact nth15) | (with_reducible exact nth16) | (with_reducible exact nth17) | (with_reducible exact nth18) | (with_reducible exact nth19) | (with_reducible exact nth20) | (with_reducible exact nth21) | (with_reducible exact nth22) | (with_reducible exact nth23)); rfl; rfl; (intro KP hKP; ((refine oper_append_later _ _ _ _ rfl 9 ii _ 1 16 Tryz.underlying37 Jii.out.1 Jii.out.2.1 Jii.out.2.2.1 Jii.out.2.2.2 rfl (by decide) (z.w) ?qa22 _ _ _ (strCells S1 ++ [.string s]) rfl ?qa23 _ _ _ (strCells S2) rfl ?qa24 ?qa25 ?qa26 ?qa27 ?qa28 ?_); (case qa22 => (repeat (first | (with_reducible exact Below.refl _ _) | (with_reducible assumption) | (with_reducible refine Later.out _ ?_) | (with_reducible refine bel_alloc ?_ _) | (with_reducible refine bel_drew ?_) | (with_reducible refine bel_drewN ?_ _) | (with_reducible refine bel_set ?_ ?_ _) | (with_reducible refine After.out _ ?_ ?_) | (dsimp only; omega) | omega | (simp only [World.size_alloc, World.size_setCell, World.size_drew]; omega)))); (case qa23 => exact own_bel hown7.out (by (repeat (first | (with_reducible exact Below.refl _ _) | (with_reducible assumption) | (with_reducible refine Later.out _ ?_) | (with_reducible refine bel_alloc ?_ _) | (with_reducible refine bel_drew ?_) | (with_reducible refine bel_drewN ?_ _) | (with_reducible refine bel_set ?_ ?_ _) | (with_reducible refine After.out _ ?_ ?_) | (dsimp only; omega) | omega | (simp only [World.size_alloc, World.size_setCell, World.size_drew]; omega))))); (case qa24 => (first | rfl | (simp [boolCells]; done) | (simp [intCells]; done) | (simp; done) | (first | omega | (simp only [List.length_append, List.length_cons, List.length_nil]; omega)))); (case qa25 => exact hr2.out _ _); (case qa26 => exact one_str S2); (case qa27 => (unfold maxLen; (first | omega | (simp only [List.length_append, List.length_cons, List.length_nil]; omega)))); (case qa28 => (first | omega | (simp only [List.length_append, List.length_cons, List.length_nil]; omega))); intro a8 c8 x8 hown8; replace hown8 := Lib.hid hown8); refine hKP _ _ (LaterC.mk (by (repeat (first | (with_reducible exact Below.refl _ _) | (with_reducible assumption) | (with_reducible refine Later.out _ ?_) | (with_reducible refine bel_alloc ?_ _) | (with_reducible refine bel_drew ?_) | (with_reducible refine bel_drewN ?_ _) | (with_reducible refine bel_set ?_ ?_ _) | (with_reducible refine After.out _ ?_ ?_) | (dsimp only; omega) | omega | (simp only [World.size_alloc, World.size_setCell, World.size_drew]; omega))))) ?_; clear hKP KP); rotate_left; (intro KP hKP; go_wp2_with fail; refine hKP _ _ (LaterC.mk (by (repeat (first | (with_reducible exact Below.refl _ _) | (with_reducible assumption) | (with_reducible refine Later.out _ ?_) | (with_reducible refine bel_alloc ?_ _) | (with_reducible refine bel_drew ?_) | (with_reducible refine bel_drewN ?_ _) | (with_reducible refine bel_set ?_ ?_ _) | (with_reducible refine After.out _ ?_ ?_) | (dsimp only; omega) | omega | (simp only [World.size_alloc, World.size_setCell, World.size_drew]; omega))))) ?_; clear hKP KP); (try simp only [List.filter, bne_self_eq_false, Nat.reduceBNe])) | ((with_reducible apply float_fork); rfl; (first | (with_reducible exact nth0) | (with_reducible exact nth1) | (with_reducible exact nth2) | (with_reducible exact nth3) | (with_reducible exact nth4) | (with_reducible exact nth5) | (with_reducible exact nth6) | (with_reducible exact nth7) | (with_reducible exact nth8) | (with_reducible exact nth9) | (with_reducible exact nth10) | (with_reducible exact nth11) | (with_reducible exact nth12) | (with_reducible exact nth13) | (with_reducible exact nth14) | (with_reducible exact nth15) | (with_reducible exact nth16) | (with_reducible exact nth17) | (with_reducible exact nth18) | (with_reducible exact nth19) | (with_reducible exact nth20) | (with_reducible exact nth21) | (with_reducible exact nth22) | (with_reducible exact nth23)); (first | (with_reducible exact nth0) | (with_reducible exact nth1) | (with_reducible exact nth2) | (with_reducible exact nth3) | (with_reducible exact nth4) | (with_reducible exact nth5) | (with_reducible exact nth6) | (with_reducible exact nth7) | (with_reducible exact nth8) | (with_reducible exact nth9) | (with_reducible exact nth10) | (with_reducible exact nth11) | (with_reducible exact nth12) | (with_reducible exact nth13) | (with_reducible exact nth14) | (with_reducible exact nth15) | (with_reducible exact nth16) | (with_reducible exact nth17) | (with_reducible exact nth18) | (with_reducible exact nth19) | (with_reducible exact nth20) | (with_reducible exact nth21) | (with_reducible exact nth22) | (with_reducible exact nth23)); rfl; rfl; (intro KP hKP; go_wp2_with fail; refine hKP _ _ (LaterC.mk (by (repeat (first | (with_reducible exact Below.refl _ _) | (with_reducible assumption) | (with_reducible refine Later.out _ ?_) | (with_reducible refine bel_alloc ?_ _) | (with_reducible refine bel_drew ?_) | (with_reducible refine bel_drewN ?_ _) | (with_reducible refine bel_set ?_ ?_ _) | (with_reducible refine After.out _ ?_ ?_) | (dsimp only; omega) | omega | (simp only [World.size_alloc, World.size_setCell, World.size_drew]; omega))))) ?_; clear hKP KP); rotate_left; (intro KP hKP; go_wp2_with fail; refine hKP _ _ (LaterC.mk (by (repeat (first | (with_reducible exact Below.refl _ _) | (with_reducible assumption) | (with_reducible refine Later.out _ ?_) | (with_reducible refine bel_alloc ?_ _) | (with_reducible refine bel_drew ?_) | (with_reducible refine bel_drewN ?_ _) | (with_reducible refine bel_set ?_ ?_ _) | (with_reducible refine After.out _ ?_ ?_) | (dsimp only; omega) | omega | (simp only [World.size_alloc, World.size_setCell, World.size_drew]; omega))))) ?_; clear hKP KP); (try simp only [List.filter, bne_self_eq_false, Nat.reduceBNe])) | ((with_reducible apply float_last); (first | (with_reducible exact nth0) | (with_reducible exact nth1) | (with_reducible exact nth2) | (with_reducible exact nth3) | (with_reducible exact nth4) | (with_reducible exact nth5) | (with_reducible exact nth6) | (with_reducible exact nth7) | (with_reducible exact nth8) | (with_reducible exact nth9) | (with_reducible exact nth10) | (with_reducible exact nth11) | (with_reducible exact nth12) | (with_reducible exact nth13) | (with_reducible exact nth14) | (with_reducible exact nth15) | (with_reducible exact nth16) | (with_reducible exact nth17) | (with_reducible exact nth18) | (with_reducible exact nth19) | (with_reducible exact nth20) | (with_reducible exact nth21) | (with_reducible exact nth22) | (with_reducible exact nth23)); rfl; (intro KP hKP; go_wp2_with fail; refine hKP _ _ (LaterC.mk (by (repeat (first | (with_reducible exact Below.refl _ _) | (with_reducible assumption) | (with_reducible refine Later.out _ ?_) | (with_reducible refine bel_alloc ?_ _) | (with_reducible refine bel_drew ?_) | (with_reducible refine bel_drewN ?_ _) | (with_reducible refine bel_set ?_ ?_ _) | (with_reducible refine After.out _ ?_ ?_) | (dsimp only; omega) | omega | (simp only [World.size_alloc, World.size_setCell, World.size_drew]; omega))))) ?_; clear hKP KP)) | ((with_reducible apply plan_loud); (first | (with_reducible exact nth0) | (with_reducible exact nth1) | (with_reducible exact nth2) | (with_reducible exact nth3) | (with_reducible exact nth4) | (with_reducible exact nth5) | (with_reducible exact nth6) | (with_reducible exact nth7) | (with_reducible exact nth8) | (with_reducible exact nth9) | (with_reducible exact nth10) | (with_reducible exact nth11) | (with_reducible exact nth12) | (with_reducible exact nth13) | (with_reducible exact nth14) | (with_reducible exact nth15) | (with_reducible exact nth16) | (with_reducible exact nth17) | (with_reducible exact nth18) | (with_reducible exact nth19) | (with_reducible exact nth20) | (with_reducible exact nth21) | (with_reducible exact nth22) | (with_reducible exact nth23)); rfl; (intro KP hKP; go_wp2_with fail; refine hKP _ _ (LaterC.mk (by (repeat (first | (with_reducible exact Below.refl _ _) | (with_reducible assumption) | (with_reducible refine Later.out _ ?_) | (with_reducible refine bel_alloc ?_ _) | (with_reducible refine bel_drew ?_) | (with_reducible refine bel_drewN ?_ _) | (with_reducible refine bel_set ?_ ?_ _) | (with_reducible refine After.out _ ?_ ?_) | (dsimp only; omega) | omega | (simp only [World.size_alloc, World.size_setCell, World.size_drew]; omega))))) ?_; clear hKP KP))))
      all_goals (simp only [Act.put, List.setIfInBounds_toArray, List.set_cons_zero, List.set_cons_succ])
      all_goals (refine plan_quiet nth12 rfl ?_; intro KP hKP; go_big_quiet_op; go_big_quiet_on)
      all_goals (refine plan_nil ?_)
      all_goals go_wp2_with fail
      all_goals go_ret
      all_goals exact RetTexts.mk X.out (by rw [cells3]; exact own_mono hown8.out hlz) (by omega) (by simp only [List.length_append, List.length_cons, List.length_nil]; omega) (by (repeat (first | (with_reducible exact Below.refl _ _) | (with_reducible assumption) | (with_reducible refine Later.out _ ?_) | (with_reducible refine bel_alloc ?_ _) | (with_reducible refine bel_drew ?_) | (with_reducible refine bel_drewN ?_ _) | (with_reducible refine bel_set ?_ ?_ _) | (with_reducible refine After.out _ ?_ ?_) | (dsimp only; omega) | omega | (simp only [World.size_alloc, World.size_setCell, World.size_drew]; omega))))
  go_enter Tryz.func106, Tryz.ntmps106
  go_wp2_with fail
  go_loopw [5] (fun i wr => ∃ k : Nat, k ≤ A.length ∧ i = .int .i64 k ∧ (∀ j (hj : j < A.length), j < k → key A[j] < key s) ∧ ∃ z : Later w, wr = z.w) (fun i _ => A.length - (intOf i).toNat)
  case atStart => exact ⟨0, Nat.zero_le _, rfl, fun j _ h => absurd h (by omega), LaterC.mk (by (repeat (first | (with_reducible exact Below.refl _ _) | (with_reducible assumption) | (with_reducible refine Later.out _ ?_) | (with_reducible refine bel_alloc ?_ _) | (with_reducible refine bel_drew ?_) | (with_reducible refine bel_drewN ?_ _) | (with_reducible refine bel_set ?_ ?_ _) | (with_reducible refine After.out _ ?_ ?_) | (dsimp only; omega) | omega | (simp only [World.size_alloc, World.size_setCell, World.size_drew]; omega))))⟩
  case round =>
    obtain ⟨k, hk, rfl, hall, z, rfl⟩ := hrel
    replace hall := Lib.hid hall
    have hzz := z.bel.size
    have hlz : lo ≤ z.w.heap.size := by omega
    by_cases hlt : k < A.length
    · have hi1 : (k : Int) < (A.length : Int) := by omega
      obtain ⟨b, o, rfl, hcell⟩ := HO.out.row k _ (strCells_get hlt)
      have hb := World.block_lt_of_cell? w _ hcell
      simp only at hb
      by_cases h1 : key A[k] < key s
      · have X := Lib.hid (show ∀ j (hj : j < A.length), j < k + 1 → key A[j] < key s from fun j hj h => by
          rcases Nat.lt_or_ge j k with h2 | h2
          · exact hall.out j hj h2
          · obtain rfl : j = k := by omega
            exact h1)
        have B1 := bytes_lt_yes h1
        obtain ⟨t, ht⟩ : ∃ t, A[k] = t := ⟨_, rfl⟩
        rw [ht] at hcell B1
        clear h1 ht
        go_wp2_with fail
        go_roundw
        case rel => exact ⟨k + 1, by omega, by go_num, X.out, LaterC.mk (by (repeat (first | (with_reducible exact Below.refl _ _) | (with_reducible assumption) | (with_reducible refine Later.out _ ?_) | (with_reducible refine bel_alloc ?_ _) | (with_reducible refine bel_drew ?_) | (with_reducible refine bel_drewN ?_ _) | (with_reducible refine bel_set ?_ ?_ _) | (with_reducible refine After.out _ ?_ ?_) | (dsimp only; omega) | omega | (simp only [World.size_alloc, World.size_setCell, World.size_drew]; omega))))⟩
        case measure => first | (simp [intOf]; done) | (simp [intOf]; omega) | omega
      · have B1 := bytes_lt_no h1
        by_cases h2 : key A[k] = key s
        · have X := Lib.hid (insB_same hlt hall.out h2)
          have B2 := bytes_eq_yes h2
          obtain ⟨t, ht⟩ : ∃ t, A[k] = t := ⟨_, rfl⟩
          rw [ht] at hcell B1 B2
          clear h1 h2 ht
          go_wp2_with fail
          go_ret
          exact RetTexts.mk X.out (own_bel HO.out.own (by (repeat (first | (with_reducible exact Below.refl _ _) | (with_reducible assumption) | (with_reducible refine Later.out _ ?_) | (with_reducible refine bel_alloc ?_ _) | (with_reducible refine bel_drew ?_) | (with_reducible refine bel_drewN ?_ _) | (with_reducible refine bel_set ?_ ?_ _) | (with_reducible refine After.out _ ?_ ?_) | (dsimp only; omega) | omega | (simp only [World.size_alloc, World.size_setCell, World.size_drew]; omega))))) rfl rfl (by (repeat (first | (with_reducible exact Below.refl _ _) | (with_reducible assumption) | (with_reducible refine Later.out _ ?_) | (with_reducible refine bel_alloc ?_ _) | (with_reducible refine bel_drew ?_) | (with_reducible refine bel_drewN ?_ _) | (with_reducible refine bel_set ?_ ?_ _) | (with_reducible refine After.out _ ?_ ?_) | (dsimp only; omega) | omega | (simp only [World.size_alloc, World.size_setCell, World.size_drew]; omega))))
        · have X := Lib.hid (insB_new hk hall.out fun _ => ⟨h1, h2⟩)
          have B2 := bytes_eq_no h2
          obtain ⟨t, ht⟩ : ∃ t, A[k] = t := ⟨_, rfl⟩
          rw [ht] at hcell B1 B2
          have hr1 := Lib.hid (HO.out.row.str_take k)
          have hr2 := Lib.hid (HO.out.row.str_drop k)
          have hL1 : (A.take k).length = k := by rw [List.length_take]; omega
          have hL2 : (A.drop k).length = A.length - k := List.length_drop
          obtain ⟨S1, hS1⟩ : ∃ S, A.take k = S := ⟨_, rfl⟩
          obtain ⟨S2, hS2⟩ : ∃ S, A.drop k = S := ⟨_, rfl⟩
          rw [hS1] at hr1 hL1 X
          rw [hS2] at hr2 hL2 X
          have hL3 := length_strCells S1
          have hL4 := length_strCells S2
          clear h1 h2 ht hS1 hS2 hall
          have hck : ¬ (c : Int) = (k : Int) := by omega
          have hck2 : ¬ c = k := by omega
          go_wp2_with fail
          refine wp_region_float 6 [(1, true), (2, true), (3, true), (5, true), (8, true), (9, true), (10, true), (0, false), (4, false), (6, false), (7, false), (11, false), (12, true)] (C := LaterC _) (by kernel_rfl) (by kernel_rfl) (by kernel_rfl) rfl (fun _ _ d _ _ h => by cases d <;> exact h) (LaterC.mk ((Below.refl _ _).drew)) ?_
          repeat (any_goals (first | (with_reducible apply plan_nil) | ((with_reducible apply float_quiet); (first | (with_reducible exact nth0) | (with_reducible exact nth1) | (with_reducible exact nth2) | (with_reducible exact nth3) | (with_reducible exact nth4) | (with_reducible exact nth5) | (with_reducible exact nth6) | (with_reducible exact nth7) | (with_reducible exact nth8) | (with_reducible exact nth9) | (with_reducible exact nth10) | (with_reducible exact nth11) | (with_reducible exact nth12) | (with_reducible exact nth13) | (with_reducible exact nth14) | (with_reducible exact nth15) | (with_reducible exact nth16) | (with_reducible exact nth17) | (with_reducible exact nth18) | (with_reducible exact nth19) | (with_reducible exact nth20) | (with_reducible exact nth21) | (with_reducible exact nth22) | (with_reducible exact nth23)); rfl; intro KP hKP; go_big_quiet_op; go_big_quiet_on) | ((with_reducible apply float_skip); (first | (with_reducible exact nth0) | (with_reducible exact nth1) | (with_reducible exact nth2) | (with_reducible exact nth3) | (with_reducible exact nth4) | (with_reducible exact nth5) | (with_reducible exact nth6) | (with_reducible exact nth7) | (with_reducible exact nth8) | (with_reducible exact nth9) | (with_reducible exact nth10) | (with_reducible exact nth11) | (with_reducible exact nth12) | (with_reducible exact nth13) | (with_reducible exact nth14) | (with_reducible exact nth15) | (with_reducible exact nth16) | (with_reducible exact nth17) | (with_reducible exact nth18) | (with_reducible exact nth19) | (with_reducible exact nth20) | (with_reducible exact nth21) | (with_reducible exact nth22) | (with_reducible exact nth23)); rfl; rfl; simp only [Act.put, List.setIfInBounds_toArray, List.set_cons_zero, List.set_cons_succ]) | ((with_reducible apply plan_quiet); (first | (with_reducible exact nth0) | (with_reducible exact nth1) | (with_reducible exact nth2) | (with_reducible exact nth3) | (with_reducible exact nth4) | (with_reducible exact nth5) | (with_reducible exact nth6) | (with_reducible exact nth7) | (with_reducible exact nth8) | (with_reducible exact nth9) | (with_reducible exact nth10) | (with_reducible exact nth11) | (with_reducible exact nth12) | (with_reducible exact nth13) | (with_reducible exact nth14) | (with_reducible exact nth15) | (with_reducible exact nth16) | (with_reducible exact nth17) | (with_reducible exact nth18) | (with_reducible exact nth19) | (with_reducible exact nth20) | (with_reducible exact nth21) | (with_reducible exact nth22) | (with_reducible exact nth23)); rfl; intro KP hKP; go_big_quiet_op; go_big_quiet_on) | ((with_reducible apply plan_skip_q); (first | (with_reducible exact nth0) | (with_reducible exact nth1) | (with_reducible exact nth2) | (with_reducible exact nth3) | (with_reducible exact nth4) | (with_reducible exact nth5) | (with_reducible exact nth6) | (with_reducible exact nth7) | (with_reducible exact nth8) | (with_reducible exact nth9) | (with_reducible exact nth10) | (with_reducible exact nth11) | (with_reducible exact nth12) | (with_reducible exact nth13) | (with_reducible exact nth14) | (with_reducible exact nth15) | (with_reducible exact nth16) | (with_reducible exact nth17) | (with_reducible exact nth18) | (with_reducible exact nth19) | (with_reducible exact nth20) | (with_reducible exact nth21) | (with_reducible exact nth22) | (with_reducible exact nth23)); rfl; rfl; simp only [Act.put, List.setIfInBounds_toArray, List.set_cons_zero, List.set_cons_succ]) | ((with_reducible apply plan_loud); (first | (with_reducible exact nth0) | (with_reducible exact nth1) | (with_reducible exact nth2) | (with_reducible exact nth3) | (with_reducible exact nth4) | (with_reducible exact nth5) | (with_reducible exact nth6) | (with_reducible exact nth7) | (with_reducible exact nth8) | (with_reducible exact nth9) | (with_reducible exact nth10) | (with_reducible exact nth11) | (with_reducible exact nth12) | (with_reducible exact nth13) | (with_reducible exact nth14) | (with_reducible exact nth15) | (with_reducible exact nth16) | (with_reducible exact nth17) | (with_reducible exact nth18) | (with_reducible exact nth19) | (with_reducible exact nth20) | (with_reducible exact nth21) | (with_reducible exact nth22) | (with_reducible exact nth23)); rfl; intro KP hKP; ((refine oper_append_at _ _ _ _ rfl 9 ii _ 1 16 Tryz.underlying37 Jii.out.1 Jii.out.2.1 Jii.out.2.2.1 Jii.out.2.2.2 rfl (by decide) _ _ rfl ?qc127 ?qc128 _ _ _ (strCells S1) rfl ?qc129 ?qc130 ?qc131 ?qc132 ?qc133 ?_); (case qc127 => (first | (dsimp only; omega) | omega | (simp only [World.size_alloc, World.size_setCell, World.size_drew]; omega))); (case qc128 => (first | exact lit0_at (W := z.w.drew) rfl (Nat.le_refl _) (Below.refl _ _) | exact lit0_at (W := z.w.drew) rfl (Nat.le_refl _) ((Below.refl _ _).alloc (Nat.le_refl _) _) | exact lit0_at (W := z.w.drew.alloc (.cells #[.string s] 9)) (by simp only [World.size_alloc, World.size_drew]) (by simp only [World.size_alloc, World.size_drew]; omega) (Below.refl _ _))); (case qc129 => (first | rfl | (simp; done) | (first | omega | (simp only [List.length_append, List.length_cons, List.length_nil]; omega)))); (case qc130 => exact hr1.out.bel (by (repeat (first | (with_reducible exact Below.refl _ _) | (with_reducible assumption) | (with_reducible refine Later.out _ ?_) | (with_reducible refine bel_alloc ?_ _) | (with_reducible refine bel_drew ?_) | (with_reducible refine bel_drewN ?_ _) | (with_reducible refine bel_set ?_ ?_ _) | (with_reducible refine After.out _ ?_ ?_) | (dsimp only; omega) | omega | (simp only [World.size_alloc, World.size_setCell, World.size_drew]; omega))))); (case qc131 => exact one_str S1); (case qc132 => (unfold maxLen; (first | omega | (simp only [List.length_append, List.length_cons, List.length_nil]; omega)))); (case qc133 => (first | omega | (simp only [List.length_append, List.length_cons, List.length_nil]; omega))); intro a6 c6 x6 hown6; replace hown6 := Lib.hid hown6); refine hKP _ _ (LaterC.mk (by (repeat (first | (with_reducible exact Below.refl _ _) | (with_reducible assumption) | (with_reducible refine Later.out _ ?_) | (with_reducible refine bel_alloc ?_ _) | (with_reducible refine bel_drew ?_) | (with_reducible refine bel_drewN ?_ _) | (with_reducible refine bel_set ?_ ?_ _) | (with_reducible refine After.out _ ?_ ?_) | (dsimp only; omega) | omega | (simp only [World.size_alloc, World.size_setCell, World.size_drew]; omega))))) ?_; clear hKP KP) | ((with_reducible apply plan_loud); (first | (with_reducible exact nth0) | (with_reducible exact nth1) | (with_reducible exact nth2) | (with_reducible exact nth3) | (with_reducible exact nth4) | (with_reducible exact nth5) | (with_reducible exact nth6) | (with_reducible exact nth7) | (with_reducible exact nth8) | (with_reducible exact nth9) | (with_reducible exact nth10) | (with_reducible exact nth11) | (with_reducible exact nth12) | (with_reducible exact nth13) | (with_reducible exact nth14) | (with_reducible exact nth15) | (with_reducible exact nth16) | (with_reducible exact nth17) | (with_reducible exact nth18) | (with_reducible exact nth19) | (with_reducible exact nth20) | (with_reducible exact nth21) | (with_reducible exact nth22) | (with_reducible exact nth23)); rfl; intro KP hKP; ((refine oper_append_later _ _ _ _ rfl 9 ii _ 1 16 Tryz.underlying37 Jii.out.1 Jii.out.2.1 Jii.out.2.2.1 Jii.out.2.2.2 rfl (by decide) (z.w) ?qa29 _ _ _ (strCells S1) rfl ?qa30 _ _ _ ([.string s]) rfl ?qa31 ?qa32 ?qa33 ?qa34 ?qa35 ?_); (case qa29 => (repeat (first | (with_reducible exact Below.refl _ _) | (with_reducible assumption) | (with_reducible refine Later.out _ ?_) | (with_reducible refine bel_alloc ?_ _) | (with_reducible refine bel_drew ?_) | (with_reducible refine bel_drewN ?_ _) | (with_reducible refine bel_set ?_ ?_ _) | (with_reducible refine After.out _ ?_ ?_) | (dsimp only; omega) | omega | (simp only [World.size_alloc, World.size_setCell, World.size_drew]; omega)))); (case qa30 => exact own_mono (own_bel hown6.out (by (repeat (first | (with_reducible exact Below.refl _ _) | (with_reducible assumption) | (with_reducible refine Later.out _ ?_) | (with_reducible refine bel_alloc ?_ _) | (with_reducible refine bel_drew ?_) | (with_reducible refine bel_drewN ?_ _) | (with_reducible refine bel_set ?_ ?_ _) | (with_reducible refine After.out _ ?_ ?_) | (dsimp only; omega) | omega | (simp only [World.size_alloc, World.size_setCell, World.size_drew]; omega))))) (by first | exact Nat.le_refl _ | omega | (simp only [World.size_alloc, World.size_drew]; omega))); (case qa31 => (first | rfl | (simp [boolCells]; done) | (simp [intCells]; done) | (simp; done) | (first | omega | (simp only [List.length_append, List.length_cons, List.length_nil]; omega)))); (case qa32 => (first | exact Row.madeAt (by first | rfl | (simp only [World.size_alloc, World.size_drew])) rfl | exact ((Row.madeAt (w := z.w.alloc (.cells #[] 9)) (cs := #[.string s]) (e := 9) (by simp only [World.size_alloc]) rfl).bel ((Below.refl _ _).drew)).btw x6.btw (fun p hp => by cases hp; first | (dsimp only; omega) | (simp only [World.size_alloc, World.size_drew]; omega)) | exact (((Row.madeAt (w := z.w) (cs := #[.string s]) (e := 9) rfl rfl).alloc (.cells #[] 9)).bel ((Below.refl _ _).drew)).btw x6.btw (fun p hp => by cases hp; first | (dsimp only; omega) | (simp only [World.size_alloc, World.size_drew]; omega)))); (case qa33 => exact one_str1 s); (case qa34 => (unfold maxLen; (first | omega | (simp only [List.length_append, List.length_cons, List.length_nil]; omega)))); (case qa35 => (first | omega | (simp only [List.length_append, List.length_cons, List.length_nil]; omega))); intro a7 c7 x7 hown7; replace hown7 := Lib.hid hown7); refine hKP _ _ (LaterC.mk (by (repeat (first | (with_reducible exact Below.refl _ _) | (with_reducible assumption) | (with_reducible refine Later.out _ ?_) | (with_reducible refine bel_alloc ?_ _) | (with_reducible refine bel_drew ?_) | (with_reducible refine bel_drewN ?_ _) | (with_reducible refine bel_set ?_ ?_ _) | (with_reducible refine After.out _ ?_ ?_) | (dsimp only; omega) | omega | (simp only [World.size_alloc, World.size_setCell, World.size_drew]; omega))))) ?_; clear hKP KP) | ((with_reducible apply plan_loud); (first | (with_reducible exact nth0) | (with_reducible exact nth1) | (with_reducible exact nth2) | (with_reducible exact nth3) | (with_reducible exact nth4) | (with_reducible exact nth5) | (with_reducible exact nth6) | (with_reducible exact nth7) | (with_reducible exact nth8) | (with_reducible exact nth9) | (with_reducible exact nth10) | (with_reducible exact nth11) | (with_reducible exact nth12) | (with_reducible exact nth13) | (with_reducible exact nth14) | (with_reducible exact nth15) | (with_reducible exact nth16) | (with_reducible exact nth17) | (with_reducible exact nth18) | (with_reducible exact nth19) | (with_reducible exact nth20) | (with_reducible exact nth21) | (with_reducible exact nth22) | (with_reducible exact nth23)); rfl; intro KP hKP; ((refine oper_append_later _ _ _ _ rfl 9 ii _ 1 16 Tryz.underlying37 Jii.out.1 Jii.out.2.1 Jii.out.2.2.1 Jii.out.2.2.2 rfl (by decide) (z.w) ?qa36 _ _ _ (strCells S1 ++ [.string s]) rfl ?qa37 _ _ _ (strCells S2) rfl ?qa38 ?qa39 ?qa40 ?qa41 ?qa42 ?_); (case qa36 => (repeat (first | (with_reducible exact Below.refl _ _) | (with_reducible assumption) | (with_reducible refine Later.out _ ?_) | (with_reducible refine bel_alloc ?_ _) | (with_reducible refine bel_drew ?_) | (with_reducible refine bel_drewN ?_ _) | (with_reducible refine bel_set ?_ ?_ _) | (with_reducible refine After.out _ ?_ ?_) | (dsimp only; omega) | omega | (simp only [World.size_alloc, World.size_setCell, World.size_drew]; omega)))); (case qa37 => exact own_bel hown7.out (by (repeat (first | (with_reducible exact Below.refl _ _) | (with_reducible assumption) | (with_reducible refine Later.out _ ?_) | (with_reducible refine bel_alloc ?_ _) | (with_reducible refine bel_drew ?_) | (with_reducible refine bel_drewN ?_ _) | (with_reducible refine bel_set ?_ ?_ _) | (with_reducible refine After.out _ ?_ ?_) | (dsimp only; omega) | omega | (simp only [World.size_alloc, World.size_setCell, World.size_drew]; omega))))); (case qa38 => (first | rfl | (simp [boolCells]; done) | (simp [intCells]; done) | (simp; done) | (first | omega | (simp only [List.length_append, List.length_cons, List.length_nil]; omega)))); (case qa39 => exact hr2.out.bel (by (repeat (first | (with_reducible exact Below.refl _ _) | (with_reducible assumption) | (with_reducible refine Later.out _ ?_) | (with_reducible refine bel_alloc ?_ _) | (with_reducible refine bel_drew ?_) | (with_reducible refine bel_drewN ?_ _) | (with_reducible refine bel_set ?_ ?_ _) | (with_reducible refine After.out _ ?_ ?_) | (dsimp only; omega) | omega | (simp only [World.size_alloc, World.size_setCell, World.size_drew]; omega))))); (case qa40 => exact one_str S2); (case qa41 => (unfold maxLen; (first | omega | (simp only [List.length_append, List.length_cons, List.length_nil]; omega)))); (case qa42 => (first | omega | (simp only [List.length_append, List.length_cons, List.length_nil]; omega))); intro a8 c8 x8 hown8; replace hown8 := Lib.hid hown8); refine hKP _ _ (LaterC.mk (by (repeat (first | (with_reducible exact Below.refl _ _) | (with_reducible assumption) | (with_reducible refine Later.out _ ?_) | (with_reducible refine bel_alloc ?_ _) | (with_reducible refine bel_drew ?_) | (with_reducible refine bel_drewN ?_ _) | (with_reducible refine bel_set ?_ ?_ _) | (with_reducible refine After.out _ ?_ ?_) | (dsimp only; omega) | omega | (simp only [World.size_alloc, World.size_setCell, World.size_drew]; omega))))) ?_; clear hKP KP) | ((with_reducible apply float_fork); rfl; (first | (with_reducible exact nth0) | (with_reducible exact nth1) | (with_reducible exact nth2) | (with_reducible exact nth3) | (with_reducible exact nth4) | (with_reducible exact nth5) | (with_reducible exact nth6) | (with_reducible exact nth7) | (with_reducible exact nth8) | (with_reducible exact nth9) | (with_reducible exact nth10) | (with_reducible exact nth11) | (with_reducible exact nth12) | (with_reducible exact nth13) | (with_reducible exact nth14) | (with_reducible exact nth15) | (with_reducible exact nth16) | (with_reducible exact nth17) | (with_reducible exact nth18) | (with_reducible exact nth19) | (with_reducible exact nth20) | (with_reducible exact nth21) | (with_reducible exact nth22) | (with_reducible exact nth23)); (first | (with_reducible exact nth0) | (with_reducible exact nth1) | (with_reducible exact nth2) | (with_reducible exact nth3) | (with_reducible exact nth4) | (with_reducible exact nth5) | (with_reducible exact nth6) | (with_reducible exact nth7) | (with_reducible exact nth8) | (with_reducible exact nth9) | (with_reducible exact nth10) | (with_reducible exact nth11) | (with_reducible exact nth12) | (with_reducible exact nth13) | (with_reducible exact nth14) | (with_reducible exact nth15) | (with_reducible exact nth16) | (with_reducible exact nth17) | (with_reducible exact nth18) | (with_reducible exact nth19) | (with_reducible exact nth20) | (with_reducible exact nth21) | (with_reducible exact nth22) | (with_reducible exact nth23)); rfl; rfl; (intro KP hKP; ((refine oper_append_at _ _ _ _ rfl 9 ii _ 1 16 Tryz.underlying37 Jii.out.1 Jii.out.2.1 Jii.out.2.2.1 Jii.out.2.2.2 rfl (by decide) _ _ rfl ?qc134 ?qc135 _ _ _ (strCells S1) rfl ?qc136 ?qc137 ?qc138 ?qc139 ?qc140 ?_); (case qc134 => (first | (dsimp only; omega) | omega | (simp only [World.size_alloc, World.size_setCell, World.size_drew]; omega))); (case qc135 => (first | exact lit0_at (W := z.w.drew) rfl (Nat.le_refl _) (Below.refl _ _) | exact lit0_at (W := z.w.drew) rfl (Nat.le_refl _) ((Below.refl _ _).alloc (Nat.le_refl _) _) | exact lit0_at (W := z.w.drew.alloc (.cells #[.string s] 9)) (by simp only [World.size_alloc, World.size_drew]) (by simp only [World.size_alloc, World.size_drew]; omega) (Below.refl _ _))); (case qc136 => (first | rfl | (simp; done) | (first | omega | (simp only [List.length_append, List.length_cons, List.length_nil]; omega)))); (case qc137 => exact hr1.out.bel (by (repeat (first | (with_reducible exact Below.refl _ _) | (with_reducible assumption) | (with_reducible refine Later.out _ ?_) | (with_reducible refine bel_alloc ?_ _) | (with_reducible refine bel_drew ?_) | (with_reducible refine bel_drewN ?_ _) | (with_reducible refine bel_set ?_ ?_ _) | (with_reducible refine After.out _ ?_ ?_) | (dsimp only; omega) | omega | (simp only [World.size_alloc, World.size_setCell, World.size_drew]; omega))))); (case qc138 => exact one_str S1); (case qc139 => (unfold maxLen; (first | omega | (simp only [List.length_append, List.length_cons, List.length_nil]; omega)))); (case qc140 => (first | omega | (simp only [List.length_append, List.length_cons, List.length_nil]; omega))); intro a6 c6 x6 hown6; replace hown6 := Lib.hid hown6); refine hKP _ _ (LaterC.mk (by (repeat (first | (with_reducible exact Below.refl _ _) | (with_reducible assumption) | (with_reducible refine Later.out _ ?_) | (with_reducible refine bel_alloc ?_ _) | (with_reducible refine bel_drew ?_) | (with_reducible refine bel_drewN ?_ _) | (with_reducible refine bel_set ?_ ?_ _) | (with_reducible refine After.out _ ?_ ?_) | (dsimp only; omega) | omega | (simp only [World.size_alloc, World.size_setCell, World.size_drew]; omega))))) ?_; clear hKP KP); rotate_left; (intro KP hKP; go_wp2_with fail; refine hKP _ _ (LaterC.mk (by (repeat (first | (with_reducible exact Below.refl _ _) | (with_reducible assumption) | (with_reducible refine Later.out _ ?_) | (with_reducible refine bel_alloc ?_ _) | (with_reducible refine bel_drew ?_) | (with_reducible refine bel_drewN ?_ _) | (with_reducible refine bel_set ?_ ?_ _) | (with_reducible refine After.out _ ?_ ?_) | (dsimp only; omega) | omega | (simp only [World.size_alloc, World.size_setCell, World.size_drew]; omega))))) ?_; clear hKP KP); (try simp only [List.filter, bne_self_eq_false, Nat.reduceBNe])) | ((with_reducible apply float_fork); rfl; (first | (with_reducible exact nth0) | (with_reducible exact nth1) | (with_reducible exact nth2) | (with_reducible exact nth3) | (with_reducible exact nth4) | (with_reducible exact nth5) | (with_reducible exact nth6) | (with_reducible exact nth7) | (with_reducible exact nth8) | (with_reducible exact nth9) | (with_reducible exact nth10) | (with_reducible exact nth11) | (with_reducible exact nth12) | (with_reducible exact nth13) | (with_reducible exact nth14) | (with_reducible exact nth15) | (with_reducible exact nth16) | (with_reducible exact nth17) | (with_reducible exact nth18) | (with_reducible exact nth19) | (with_reducible exact nth20) | (with_reducible exact nth21) | (with_reducible exact nth22) | (with_reducible exact nth23)); (first | (with_reducible exact nth0) | (with_reducible exact nth1) | (with_reducible exact nth2) | (with_reducible exact nth3) | (with_reducible exact nth4) | (with_reducible exact nth5) | (with_reducible exact nth6) | (with_reducible exact nth7) | (with_reducible exact nth8) | (with_reducible exact nth9) | (with_reducible exact nth10) | (with_reducible exact nth11) | (with_reducible exact nth12) | (with_reducible exact nth13) | (with_reducible exact nth14) | (with_reducible exact nth15) | (with_reducible exact nth16) | (with_reducible exact nth17) | (with_reducible exact nth18) | (with_reducible exact nth19) | (with_reducible exact nth20) | (with_reducible exact nth21) | (with_reducible exact nth22) | (with_reducible exact nth23)); rfl; rfl; (intro KP hKP; ((refine oper_append_later _ _ _ _ rfl 9 ii _ 1 16 Tryz.underlying37 Jii.out.1 Jii.out.2.1 Jii.out.2.2.1 Jii.out.2.2.2 rfl (by decide) (z.w) ?qa43 _ _ _ (strCells S1) rfl ?qa44 _ _ _ ([.string s]) rfl ?qa45 ?qa46 ?qa47 ?qa48 ?qa49 ?_); (case qa43 => (repeat (first | (with_reducible exact Below.refl _ _) | (with_reducible assumption) | (with_reducible refine Later.out _ ?_) | (with_reducible refine bel_alloc ?_ _) | (with_reducible refine bel_drew ?_) | (with_reducible refine bel_drewN ?_ _) | (with_reducible refine bel_set ?_ ?_ _) | (with_reducible refine After.out _ ?_ ?_) | (dsimp only; omega) | omega | (simp only [World.size_alloc, World.size_setCell, World.size_drew]; omega)))); (case qa44 => exact own_mono (own_bel hown6.out (by (repeat (first | (with_reducible exact Below.refl _ _) | (with_reducible assumption) | (with_reducible refine Later.out _ ?_) | (with_reducible refine bel_alloc ?_ _) | (with_reducible refine bel_drew ?_) | (with_reducible refine bel_drewN ?_ _) | (with_reducible refine bel_set ?_ ?_ _) | (with_reducible refine After.out _ ?_ ?_) | (dsimp only; omega) | omega | (simp only [World.size_alloc, World.size_setCell, World.size_drew]; omega))))) (by first | exact Nat.le_refl _ | omega | (simp only [World.size_alloc, World.size_drew]; omega))); (case qa45 => (first | rfl | (simp [boolCells]; done) | (simp [intCells]; done) | (simp; done) | (first | omega | (simp only [List.length_append, List.length_cons, List.length_nil]; omega)))); (case qa46 => (first | exact Row.madeAt (by first | rfl | (simp only [World.size_alloc, World.size_drew])) rfl | exact ((Row.madeAt (w := z.w.alloc (.cells #[] 9)) (cs := #[.string s]) (e := 9) (by simp only [World.size_alloc]) rfl).bel ((Below.refl _ _).drew)).btw x6.btw (fun p hp => by cases hp; first | (dsimp only; omega) | (simp only [World.size_alloc, World.size_drew]; omega)) | exact (((Row.madeAt (w := z.w) (cs := #[.string s]) (e := 9) rfl rfl).alloc (.cells #[] 9)).bel ((Below.refl _ _).drew)).btw x6.btw (fun p hp => by cases hp; first | (dsimp only; omega) | (simp only [World.size_alloc, World.size_drew]; omega)))); (case qa47 => exact one_str1 s); (case qa48 => (unfold maxLen; (first | omega | (simp only [List.length_append, List.length_cons, List.length_nil]; omega)))); (case qa49 => (first | omega | (simp only [List.length_append, List.length_cons, List.length_nil]; omega))); intro a7 c7 x7 hown7; replace hown7 := Lib.hid hown7); refine hKP _ _ (LaterC.mk (by (repeat (first | (with_reducible exact Below.refl _ _) | (with_reducible assumption) | (with_reducible refine Later.out _ ?_) | (with_reducible refine bel_alloc ?_ _) | (with_reducible refine bel_drew ?_) | (with_reducible refine bel_drewN ?_ _) | (with_reducible refine bel_set ?_ ?_ _) | (with_reducible refine After.out _ ?_ ?_) | (dsimp only; omega) | omega | (simp only [World.size_alloc, World.size_setCell, World.size_drew]; omega))))) ?_; clear hKP KP); rotate_left; (intro KP hKP; go_wp2_with fail; refine hKP _ _ (LaterC.mk (by (repeat (first | (with_reducible exact Below.refl _ _) | (with_reducible assumption) | (with_reducible refine Later.out _ ?_) | (with_reducible refine bel_alloc ?_ _) | (with_reducible refine bel_drew ?_) | (with_reducible refine bel_drewN ?_ _) | (with_reducible refine bel_set ?_ ?_ _) | (with_reducible refine After.out _ ?_ ?_) | (dsimp only; omega) | omega | (simp only [World.size_alloc, World.size_setCell, World.size_drew]; omega))))) ?_; clear hKP KP); (try simp only [List.filter, bne_self_eq_false, Nat.reduceBNe])) | ((with_reducible apply float_fork); rfl; (first | (with_reducible exact nth0) | (with_reducible exact nth1) | (with_reducible exact nth2) | (with_reducible exact nth3) | (with_reducible exact nth4) | (with_reducible exact nth5) | (with_reducible exact nth6) | (with_reducible exact nth7) | (with_reducible exact nth8) | (with_reducible exact nth9) | (with_reducible exact nth10) | (with_reducible exact nth11) | (with_reducible exact nth12) | (with_reducible exact nth13) | (with_reducible exact nth14) | (with_reducible exact nth15) | (with_reducible exact nth16) | (with_reducible exact nth17) | (with_reducible exact nth18) | (with_reducible exact nth19) | (with_reducible exact nth20) | (with_reducible exact nth21) | (with_reducible exact nth22) | (with_reducible exact nth23)); (first | (with_reducible exact nth0) | (with_reducible exact nth1) | (with_reducible exact nth2) | (with_reducible exact nth3) | (with_reducible exact nth4) | (with_reducible exact nth5) | (with_reducible exact nth6) | (with_reducible exact nth7) | (with_reducible exact nth8) | (with_reducible exact nth9) | (with_reducible exact nth10) | (with_reducible exact nth11) | (with_reducible exact nth12) | (with_reducible exact nth13) | (with_reducible exact nth14) | (with_reducible exact nth15) | (with_reducible exact nth16) | (with_reducible exact nth17) | (with_reducible exact nth18) | (with_reducible exact nth19) | (with_reducible exact nth20) | (with_reducible exact nth21) | (with_reducible exact nth22) | (with_reducible exact nth23)); rfl; rfl; (intro KP hKP; ((refine oper_append_later _ _ _ _ rfl 9 ii _ 1 16 Tryz.underlying37 Jii.out.1 Jii.out.2.1 Jii.out.2.2.1 Jii.out.2.2.2 rfl (by decide) (z.w) ?qa50 _ _ _ (strCells S1 ++ [.string s]) rfl ?qa51 _ _ _ (strCells S2) rfl ?qa52 ?qa53 ?qa54 ?qa55 ?qa56 ?_); (case qa50 => (repeat (first | (with_reducible exact Below.refl _ _) | (with_reducible assumption) | (with_reducible refine Later.out _ ?_) | (with_reducible refine bel_alloc ?_ _) | (with_reducible refine bel_drew ?_) | (with_reducible refine bel_drewN ?_ _) | (with_reducible refine bel_set ?_ ?_ _) | (with_reducible refine After.out _ ?_ ?_) | (dsimp only; omega) | omega | (simp only [World.size_alloc, World.size_setCell, World.size_drew]; omega)))); (case qa51 => exact own_bel hown7.out (by (repeat (first | (with_reducible exact Below.refl _ _) | (with_reducible assumption) | (with_reducible refine Later.out _ ?_) | (with_reducible refine bel_alloc ?_ _) | (with_reducible refine bel_drew ?_) | (with_reducible refine bel_drewN ?_ _) | (with_reducible refine bel_set ?_ ?_ _) | (with_reducible refine After.out _ ?_ ?_) | (dsimp only; omega) | omega | (simp only [World.size_alloc, World.size_setCell, World.size_drew]; omega))))); (case qa52 => (first | rfl | (simp [boolCells]; done) | (simp [intCells]; done) | (simp; done) | (first | omega | (simp only [List.length_append, List.length_cons, List.length_nil]; omega)))); (case qa53 => exact hr2.out.bel (by (repeat (first | (with_reducible exact Below.refl _ _) | (with_reducible assumption) | (with_reducible refine Later.out _ ?_) | (with_reducible refine bel_alloc ?_ _) | (with_reducible refine bel_drew ?_) | (with_reducible refine bel_drewN ?_ _) | (with_reducible refine bel_set ?_ ?_ _) | (with_reducible refine After.out _ ?_ ?_) | (dsimp only; omega) | omega | (simp only [World.size_alloc, World.size_setCell, World.size_drew]; omega))))); (case qa54 => exact one_str S2); (case qa55 => (unfold maxLen; (first | omega | (simp only [List.length_append, List.length_cons, List.length_nil]; omega)))); (case qa56 => (first | omega | (simp only [List.length_append, List.length_cons, List.length_nil]; omega))); intro a8 c8 x8 hown8; replace hown8 := Lib.hid hown8); refine hKP _ _ (LaterC.mk (by (repeat (first | (with_reducible exact Below.refl _ _) | (with_reducible assumption) | (with_reducible refine Later.out _ ?_) | (with_reducible refine bel_alloc ?_ _) | (with_reducible refine bel_drew ?_) | (with_reducible refine bel_drewN ?_ _) | (with_reducible refine bel_set ?_ ?_ _) | (with_reducible refine After.out _ ?_ ?_) | (dsimp only; omega) | omega | (simp only [World.size_alloc, World.size_setCell, World.size_drew]; omega))))) ?_; clear hKP KP); rotate_left; (intro KP hKP; go_wp2_with fail; refine hKP _ _ (LaterC.mk (by (repeat (first | (with_reducible exact Below.refl _ _) | (with_reducible assumption) | (with_reducible refine Later.out _ ?_) | (with_reducible refine bel_alloc ?_ _) | (with_reducible refine bel_drew ?_) | (with_reducible refine bel_drewN ?_ _) | (with_reducible refine bel_set ?_ ?_ _) | (with_reducible refine After.out _ ?_ ?_) | (dsimp only; omega) | omega | (simp only [World.size_alloc, World.size_setCell, World.size_drew]; omega))))) ?_; clear hKP KP); (try simp only [List.filter, bne_self_eq_false, Nat.reduceBNe])) | ((with_reducible apply float_fork); rfl; (first | (with_reducible exact nth0) | (with_reducible exact nth1) | (with_reducible exact nth2) | (with_reducible exact nth3) | (with_reducible exact nth4) | (with_reducible exact nth5) | (with_reducible exact nth6) | (with_reducible exact nth7) | (with_reducible exact nth8) | (with_reducible exact nth9) | (with_reducible exact nth10) | (with_reducible exact nth11) | (with_reducible exact nth12) | (with_reducible exact nth13) | (with_reducible exact nth14) | (with_reducible exact nth15) | (with_reducible exact nth16) | (with_reducible exact nth17) | (with_reducible exact nth18) | (with_reducible exact nth19) | (with_reducible exact nth20) | (with_reducible exact nth21) | (with_reducible exact nth22) | (with_reducible exact nth23)); (first | (with_reducible exact nth0) | (with_reducible exact nth1) | (with_reducible exact nth2) | (with_reducible exact nth3) | (with_reducible exact nth4) | (with_reducible exact nth5) | (with_reducible exact nth6) | (with_reducible exact nth7) | (with_reducible exact nth8) | (with_reducible exact nth9) | (with_reducible exact nth10) | (with_reducible exact nth11) | (with_reducible exact nth12) | (with_reducible exact nth13) | (with_reducible exact nth14) | (with_reducible exact nth15) | (with_reducible exact nth16) | (with_reducible exact nth17) | (with_reducible exact nth18) | (with_reducible exact nth19) | (with_reducible exact nth20) | (with_reducible exact nth21) | (with_reducible exact nth22) | (with_reducible exact nth23)); rfl; rfl; (intro KP hKP; go_wp2_with fail; refine hKP _ _ (LaterC.mk (by (repeat (first | (with_reducible exact Below.refl _ _) | (with_reducible assumption) | (with_reducible refine Later.out _ ?_) | (with_reducible refine bel_alloc ?_ _) | (with_reducible refine bel_drew ?_) | (with_reducible refine bel_drewN ?_ _) | (with_reducible refine bel_set ?_ ?_ _) | (with_reducible refine After.out _ ?_ ?_) | (dsimp only; omega) | omega | (simp only [World.size_alloc, World.size_setCell, World.size_drew]; omega))))) ?_; clear hKP KP); rotate_left; (intro KP hKP; go_wp2_with fail; refine hKP _ _ (LaterC.mk (by (repeat (first | (with_reducible exact Below.refl _ _) | (with_reducible assumption) | (with_reducible refine Later.out _ ?_) | (with_reducible refine bel_alloc ?_ _) | (with_reducible refine bel_drew ?_) | (with_reducible refine bel_drewN ?_ _) | (with_reducible refine bel_set ?_ ?_ _) | (with_reducible refine After.out _ ?_ ?_) | (dsimp only; omega) | omega | (simp only [World.size_alloc, World.size_setCell, World.size_drew]; omega))))) ?_; clear hKP KP); (try simp only [List.filter, bne_self_eq_false, Nat.reduceBNe])) | ((with_reducible apply float_last); (first | (with_reducible exact nth0) | (with_reducible exact nth1) | (with_reducible exact nth2) | (with_reducible exact nth3) | (with_reducible exact nth4) | (with_reducible exact nth5) | (with_reducible exact nth6) | (with_reducible exact nth7) | (with_reducible exact nth8) | (with_reducible exact nth9) | (with_reducible exact nth10) | (with_reducible exact nth11) | (with_reducible exact nth12) | (with_reducible exact nth13) | (with_reducible exact nth14) | (with_reducible exact nth15) | (with_reducible exact nth16) | (with_reducible exact nth17) | (with_reducible exact nth18) | (with_reducible exact nth19) | (with_reducible exact nth20) | (with_reducible exact nth21) | (with_reducible exact nth22) | (with_reducible exact nth23)); rfl; (intro KP hKP; go_wp2_with fail; refine hKP _ _ (LaterC.mk (by (repeat (first | (with_reducible exact Below.refl _ _) | (with_reducible assumption) | (with_reducible refine Later.out _ ?_) | (with_reducible refine bel_alloc ?_ _) | (with_reducible refine bel_drew ?_) | (with_reducible refine bel_drewN ?_ _) | (with_reducible refine bel_set ?_ ?_ _) | (with_reducible refine After.out _ ?_ ?_) | (dsimp only; omega) | omega | (simp only [World.size_alloc, World.size_setCell, World.size_drew]; omega))))) ?_; clear hKP KP)) | ((with_reducible apply plan_loud); (first | (with_reducible exact nth0) | (with_reducible exact nth1) | (with_reducible exact nth2) | (with_reducible exact nth3) | (with_reducible exact nth4) | (with_reducible exact nth5) | (with_reducible exact nth6) | (with_reducible exact nth7) | (with_reducible exact nth8) | (with_reducible exact nth9) | (with_reducible exact nth10) | (with_reducible exact nth11) | (with_reducible exact nth12) | (with_reducible exact nth13) | (with_reducible exact nth14) | (with_reducible exact nth15) | (with_reducible exact nth16) | (with_reducible exact nth17) | (with_reducible exact nth18) | (with_reducible exact nth19) | (with_reducible exact nth20) | (with_reducible exact nth21) | (with_reducible exact nth22) | (with_reducible exact nth23)); rfl; (intro KP hKP; go_wp2_with fail; refine hKP _ _ (LaterC.mk (by (repeat (first | (with_reducible exact Below.refl _ _) | (with_reducible assumption) | (with_reducible refine Later.out _ ?_) | (with_reducible refine bel_alloc ?_ _) | (with_reducible refine bel_drew ?_) | (with_reducible refine bel_drewN ?_ _) | (with_reducible refine bel_set ?_ ?_ _) | (with_reducible refine After.out _ ?_ ?_) | (dsimp only; omega) | omega | (simp only [World.size_alloc, World.size_setCell, World.size_drew]; omega))))) ?_; clear hKP KP))))
          all_goals (simp only [Act.put, List.setIfInBounds_toArray, List.set_cons_zero, List.set_cons_succ])
          all_goals (refine plan_quiet nth12 rfl ?_; intro KP hKP; go_big_quiet_op; go_big_quiet_on)
          all_goals (refine plan_nil ?_)
          all_goals go_wp2_with fail
          all_goals go_ret
          all_goals exact RetTexts.mk X.out (by rw [cells3]; exact own_mono hown8.out hlz) (by omega) (by simp only [List.length_append, List.length_cons, List.length_nil]; omega) (by (repeat (first | (with_reducible exact Below.refl _ _) | (with_reducible assumption) | (with_reducible refine Later.out _ ?_) | (with_reducible refine bel_alloc ?_ _) | (with_reducible refine bel_drew ?_) | (with_reducible refine bel_drewN ?_ _) | (with_reducible refine bel_set ?_ ?_ _) | (with_reducible refine After.out _ ?_ ?_) | (dsimp only; omega) | omega | (simp only [World.size_alloc, World.size_setCell, World.size_drew]; omega))))
    · obtain rfl : k = A.length := by omega
      have X := Lib.hid (insB_new (Nat.le_refl _) hall.out fun h => absurd h (Nat.lt_irrefl _))
      have hL1 : (A.take A.length).length = A.length := by rw [List.take_length]
      have hr1 := Lib.hid (HO.out.row.str_take A.length)
      have hdr : A.drop A.length = [] := List.drop_length
      have hL3 := length_strCells (A.take A.length)
      obtain ⟨S1, hS1⟩ : ∃ S, A.take A.length = S := ⟨_, rfl⟩
      obtain ⟨S2, hS2⟩ : ∃ S, A.drop A.length = S := ⟨_, rfl⟩
      rw [hS1] at hr1 hL1 X hL3
      rw [hS2] at X hdr
      have hr2 := Lib.hid (fun (w : World) (a : Option Addr) => show Row w a (strCells S2) by rw [hdr]; exact Row.nil _ _)
      have hL2 : S2.length = 0 := by rw [hdr]; rfl
      have hL4 := length_strCells S2
      clear hS1 hS2 hall hdr
      cases a with
      | none => exact absurd rfl hnn
      | some p =>
        obtain ⟨b, o, sp⟩ := p
        obtain rfl : sp = none := hspot _ rfl
        by_cases hck : c = A.length
        · subst hck
          go_wp2_with fail
          refine wp_region_float 6 [(1, true), (2, true), (3, true), (5, true), (8, true), (9, true), (10, true), (0, false), (4, false), (6, false), (7, false), (11, false), (12, true)] (C := LaterC _) (by kernel_rfl) (by kernel_rfl) (by kernel_rfl) rfl (fun _ _ d _ _ h => by cases d <;> exact h) (LaterC.mk ((Below.refl _ _).drew)) ?_
          repeat (any_goals (first | (with_reducible apply plan_nil) | ((with_reducible apply float_quiet); (first | (with_reducible exact nth0) | (with_reducible exact nth1) | (with_reducible exact nth2) | (with_reducible exact nth3) | (with_reducible exact nth4) | (with_reducible exact nth5) | (with_reducible exact nth6) | (with_reducible exact nth7) | (with_reducible exact nth8) | (with_reducible exact nth9) | (with_reducible exact nth10) | (with_reducible exact nth11) | (with_reducible exact nth12) | (with_reducible exact nth13) | (with_reducible exact nth14) | (with_reducible exact nth15) | (with_reducible exact nth16) | (with_reducible exact nth17) | (with_reducible exact nth18) | (with_reducible exact nth19) | (with_reducible exact nth20) | (with_reducible exact nth21) | (with_reducible exact nth22) | (with_reducible exact nth23)); rfl; intro KP hKP; go_big_quiet_op; go_big_quiet_on) | ((with_reducible apply float_skip); (first | (with_reducible exact nth0) | (with_reducible exact nth1) | (with_reducible exact nth2) | (with_reducible exact nth3) | (with_reducible exact nth4) | (with_reducible exact nth5) | (with_reducible exact nth6) | (with_reducible exact nth7) | (with_reducible exact nth8) | (with_reducible exact nth9) | (with_reducible exact nth10) | (with_reducible exact nth11) | (with_reducible exact nth12) | (with_reducible exact nth13) | (with_reducible exact nth14) | (with_reducible exact nth15) | (with_reducible exact nth16) | (with_reducible exact nth17) | (with_reducible exact nth18) | (with_reducible exact nth19) | (with_reducible exact nth20) | (with_reducible exact nth21) | (with_reducible exact nth22) | (with_reducible exact nth23)); rfl; rfl; simp only [Act.put, List.setIfInBounds_toArray, List.set_cons_zero, List.set_cons_succ]) | ((with_reducible apply plan_quiet); (first | (with_reducible exact nth0) | (with_reducible exact nth1) | (with_reducible exact nth2) | (with_reducible exact nth3) | (with_reducible exact nth4) | (with_reducible exact nth5) | (with_reducible exact nth6) | (with_reducible exact nth7) | (with_reducible exact nth8) | (with_reducible exact nth9) | (with_reducible exact nth10) | (with_reducible exact nth11) | (with_reducible exact nth12) | (with_reducible exact nth13) | (with_reducible exact nth14) | (with_reducible exact nth15) | (with_reducible exact nth16) | (with_reducible exact nth17) | (with_reducible exact nth18) | (with_reducible exact nth19) | (with_reducible exact nth20) | (with_reducible exact nth21) | (with_reducible exact nth22) | (with_reducible exact nth23)); rfl; intro KP hKP; go_big_quiet_op; go_big_quiet_on) | ((with_reducible apply plan_skip_q); (first | (with_reducible exact nth0) | (with_reducible exact nth1) | (with_reducible exact nth2) | (with_reducible exact nth3) | (with_reducible exact nth4) | (with_reducible exact nth5) | (with_reducible exact nth6) | (with_reducible exact nth7) | (with_reducible exact nth8) | (with_reducible exact nth9) | (with_reducible exact nth10) | (with_reducible exact nth11) | (with_reducible exact nth12) | (with_reducible exact nth13) | (with_reducible exact nth14) | (with_reducible exact nth15) | (with_reducible exact nth16) | (with_reducible exact nth17) | (with_reducible exact nth18) | (with_reducible exact nth19) | (with_reducible exact nth20) | (with_reducible exact nth21) | (with_reducible exact nth22) | (with_reducible exact nth23)); rfl; rfl; simp only [Act.put, List.setIfInBounds_toArray, List.set_cons_zero, List.set_cons_succ]) | ((with_reducible apply plan_loud); (first | (with_reducible exact nth0) | (with_reducible exact nth1) | (with_reducible exact nth2) | (with_reducible exact nth3) | (with_reducible exact nth4) | (with_reducible exact nth5) | (with_reducible exact nth6) | (with_reducible exact nth7) | (with_reducible exact nth8) | (with_reducible exact nth9) | (with_reducible exact nth10) | (with_reducible exact nth11) | (with_reducible exact nth12) | (with_reducible exact nth13) | (with_reducible exact nth14) | (with_reducible exact nth15) | (with_reducible exact nth16) | (with_reducible exact nth17) | (with_reducible exact nth18) | (with_reducible exact nth19) | (with_reducible exact nth20) | (with_reducible exact nth21) | (with_reducible exact nth22) | (with_reducible exact nth23)); rfl; intro KP hKP; ((refine oper_append_at _ _ _ _ rfl 9 ii _ 1 16 Tryz.underlying37 Jii.out.1 Jii.out.2.1 Jii.out.2.2.1 Jii.out.2.2.2 rfl (by decide) _ _ rfl ?qc141 ?qc142 _ _ _ (strCells S1) rfl ?qc143 ?qc144 ?qc145 ?qc146 ?qc147 ?_); (case qc141 => (first | (dsimp only; omega) | omega | (simp only [World.size_alloc, World.size_setCell, World.size_drew]; omega))); (case qc142 => (first | exact lit0_at (W := z.w.drew) rfl (Nat.le_refl _) (Below.refl _ _) | exact lit0_at (W := z.w.drew) rfl (Nat.le_refl _) ((Below.refl _ _).alloc (Nat.le_refl _) _) | exact lit0_at (W := z.w.drew.alloc (.cells #[.string s] 9)) (by simp only [World.size_alloc, World.size_drew]) (by simp only [World.size_alloc, World.size_drew]; omega) (Below.refl _ _))); (case qc143 => (first | rfl | (simp; done) | (first | omega | (simp only [List.length_append, List.length_cons, List.length_nil]; omega)))); (case qc144 => exact hr1.out.bel (by (repeat (first | (with_reducible exact Below.refl _ _) | (with_reducible assumption) | (with_reducible refine Later.out _ ?_) | (with_reducible refine bel_alloc ?_ _) | (with_reducible refine bel_drew ?_) | (with_reducible refine bel_drewN ?_ _) | (with_reducible refine bel_set ?_ ?_ _) | (with_reducible refine After.out _ ?_ ?_) | (dsimp only; omega) | omega | (simp only [World.size_alloc, World.size_setCell, World.size_drew]; omega))))); (case qc145 => exact one_str S1); (case qc146 => (unfold maxLen; (first | omega | (simp only [List.length_append, List.length_cons, List.length_nil]; omega)))); (case qc147 => (first | omega | (simp only [List.length_append, List.length_cons, List.length_nil]; omega))); intro a6 c6 x6 hown6; replace hown6 := Lib.hid hown6); refine hKP _ _ (LaterC.mk (by (repeat (first | (with_reducible exact Below.refl _ _) | (with_reducible assumption) | (with_reducible refine Later.out _ ?_) | (with_reducible refine bel_alloc ?_ _) | (with_reducible refine bel_drew ?_) | (with_reducible refine bel_drewN ?_ _) | (with_reducible refine bel_set ?_ ?_ _) | (with_reducible refine After.out _ ?_ ?_) | (dsimp only; omega) | omega | (simp only [World.size_alloc, World.size_setCell, World.size_drew]; omega))))) ?_; clear hKP KP) | ((with_reducible apply plan_loud); (first | (with_reducible exact nth0) | (with_reducible exact nth1) | (with_reducible exact nth2) | (with_reducible exact nth3) | (with_reducible exact nth4) | (with_reducible exact nth5) | (with_reducible exact nth6) | (with_reducible exact nth7) | (with_reducible exact nth8) | (with_reducible exact nth9) | (with_reducible exact nth10) | (with_reducible exact nth11) | (with_reducible exact nth12) | (with_reducible exact nth13) | (with_reducible exact nth14) | (with_reducible exact nth15) | (with_reducible exact nth16) | (with_reducible exact nth17) | (with_reducible exact nth18) | (with_reducible exact nth19) | (with_reducible exact nth20) | (with_reducible exact nth21) | (with_reducible exact nth22) | (with_reducible exact nth23)); rfl; intro KP hKP; ((refine oper_append_later _ _ _ _ rfl 9 ii _ 1 16 Tryz.underlying37 Jii.out.1 Jii.out.2.1 Jii.out.2.2.1 Jii.out.2.2.2 rfl (by decide) (z.w) ?qa57 _ _ _ (strCells S1) rfl ?qa58 _ _ _ ([.string s]) rfl ?qa59 ?qa60 ?qa61 ?qa62 ?qa63 ?_); (case qa57 => (repeat (first | (with_reducible exact Below.refl _ _) | (with_reducible assumption) | (with_reducible refine Later.out _ ?_) | (with_reducible refine bel_alloc ?_ _) | (with_reducible refine bel_drew ?_) | (with_reducible refine bel_drewN ?_ _) | (with_reducible refine bel_set ?_ ?_ _) | (with_reducible refine After.out _ ?_ ?_) | (dsimp only; omega) | omega | (simp only [World.size_alloc, World.size_setCell, World.size_drew]; omega)))); (case qa58 => exact own_mono (own_bel hown6.out (by (repeat (first | (with_reducible exact Below.refl _ _) | (with_reducible assumption) | (with_reducible refine Later.out _ ?_) | (with_reducible refine bel_alloc ?_ _) | (with_reducible refine bel_drew ?_) | (with_reducible refine bel_drewN ?_ _) | (with_reducible refine bel_set ?_ ?_ _) | (with_reducible refine After.out _ ?_ ?_) | (dsimp only; omega) | omega | (simp only [World.size_alloc, World.size_setCell, World.size_drew]; omega))))) (by first | exact Nat.le_refl _ | omega | (simp only [World.size_alloc, World.size_drew]; omega))); (case qa59 => (first | rfl | (simp [boolCells]; done) | (simp [intCells]; done) | (simp; done) | (first | omega | (simp only [List.length_append, List.length_cons, List.length_nil]; omega)))); (case qa60 => (first | exact Row.madeAt (by first | rfl | (simp only [World.size_alloc, World.size_drew])) rfl | exact ((Row.madeAt (w := z.w.alloc (.cells #[] 9)) (cs := #[.string s]) (e := 9) (by simp only [World.size_alloc]) rfl).bel ((Below.refl _ _).drew)).btw x6.btw (fun p hp => by cases hp; first | (dsimp only; omega) | (simp only [World.size_alloc, World.size_drew]; omega)) | exact (((Row.madeAt (w := z.w) (cs := #[.string s]) (e := 9) rfl rfl).alloc (.cells #[] 9)).bel ((Below.refl _ _).drew)).btw x6.btw (fun p hp => by cases hp; first | (dsimp only; omega) | (simp only [World.size_alloc, World.size_drew]; omega)))); (case qa61 => exact one_str1 s); (case qa62 => (unfold maxLen; (first | omega | (simp only [List.length_append, List.length_cons, List.length_nil]; omega)))); (case qa63 => (first | omega | (simp only [List.length_append, List.length_cons, List.length_nil]; omega))); intro a7 c7 x7 hown7; replace hown7 := Lib.hid hown7); refine hKP _ _ (LaterC.mk (by (repeat (first | (with_reducible exact Below.refl _ _) | (with_reducible assumption) | (with_reducible refine Later.out _ ?_) | (with_reducible refine bel_alloc ?_ _) | (with_reducible refine bel_drew ?_) | (with_reducible refine bel_drewN ?_ _) | (with_reducible refine bel_set ?_ ?_ _) | (with_reducible refine After.out _ ?_ ?_) | (dsimp only; omega) | omega | (simp only [World.size_alloc, World.size_setCell, World.size_drew]; omega))))) ?_; clear hKP KP) | ((with_reducible apply plan_loud); (first | (with_reducible exact nth0) | (with_reducible exact nth1) | (with_reducible exact nth2) | (with_reducible exact nth3) | (with_reducible exact nth4) | (with_reducible exact nth5) | (with_reducible exact nth6) | (with_reducible exact nth7) | (with_reducible exact nth8) | (with_reducible exact nth9) | (with_reducible exact nth10) | (with_reducible exact nth11) | (with_reducible exact nth12) | (with_reducible exact nth13) | (with_reducible exact nth14) | (with_reducible exact nth15) | (with_reducible exact nth16) | (with_reducible exact nth17) | (with_reducible exact nth18) | (with_reducible exact nth19) | (with_reducible exact nth20) | (with_reducible exact nth21) | (with_reducible exact nth22) | (with_reducible exact nth23)); rfl; intro KP hKP; ((refine oper_append_later _ _ _ _ rfl 9 ii _ 1 16 Tryz.underlying37 Jii.out.1 Jii.out.2.1 Jii.out.2.2.1 Jii.out.2.2.2 rfl (by decide) (z.w) ?qa64 _ _ _ (strCells S1 ++ [.string s]) rfl ?qa65 _ _ _ (strCells S2) rfl ?qa66 ?qa67 ?qa68 ?qa69 ?qa70 ?_); (case qa64 => (repeat (first | (with_reducible exact Below.refl _ _) | (with_reducible assumption) | (with_reducible refine Later.out _ ?_) | (with_reducible refine bel_alloc ?_ _) | (with_reducible refine bel_drew ?_) | (with_reducible refine bel_drewN ?_ _) | (with_reducible refine bel_set ?_ ?_ _) | (with_reducible refine After.out _ ?_ ?_) | (dsimp only; omega) | omega | (simp only [World.size_alloc, World.size_setCell, World.size_drew]; omega)))); (case qa65 => exact own_bel hown7.out (by (repeat (first | (with_reducible exact Below.refl _ _) | (with_reducible assumption) | (with_reducible refine Later.out _ ?_) | (with_reducible refine bel_alloc ?_ _) | (with_reducible refine bel_drew ?_) | (with_reducible refine bel_drewN ?_ _) | (with_reducible refine bel_set ?_ ?_ _) | (with_reducible refine After.out _ ?_ ?_) | (dsimp only; omega) | omega | (simp only [World.size_alloc, World.size_setCell, World.size_drew]; omega))))); (case qa66 => (first | rfl | (simp [boolCells]; done) | (simp [intCells]; done) | (simp; done) | (first | omega | (simp only [List.length_append, List.length_cons, List.length_nil]; omega)))); (case qa67 => exact hr2.out _ _); (case qa68 => exact one_str S2); (case qa69 => (unfold maxLen; (first | omega | (simp only [List.length_append, List.length_cons, List.length_nil]; omega)))); (case qa70 => (first | omega | (simp only [List.length_append, List.length_cons, List.length_nil]; omega))); intro a8 c8 x8 hown8; replace hown8 := Lib.hid hown8); refine hKP _ _ (LaterC.mk (by (repeat (first | (with_reducible exact Below.refl _ _) | (with_reducible assumption) | (with_reducible refine Later.out _ ?_) | (with_reducible refine bel_alloc ?_ _) | (with_reducible refine bel_drew ?_) | (with_reducible refine bel_drewN ?_ _) | (with_reducible refine bel_set ?_ ?_ _) | (with_reducible refine After.out _ ?_ ?_) | (dsimp only; omega) | omega | (simp only [World.size_alloc, World.size_setCell, World.size_drew]; omega))))) ?_; clear hKP KP) | ((with_reducible apply float_fork); rfl; (first | (with_reducible exact nth0) | (with_reducible exact nth1) | (with_reducible exact nth2) | (with_reducible exact nth3) | (with_reducible exact nth4) | (with_reducible exact nth5) | (with_reducible exact nth6) | (with_reducible exact nth7) | (with_reducible exact nth8) | (with_reducible exact nth9) | (with_reducible exact nth10) | (with_reducible exact nth11) | (with_reducible exact nth12) | (with_reducible exact nth13) | (with_reducible exact nth14) | (with_reducible exact nth15) | (with_reducible exact nth16) | (with_reducible exact nth17) | (with_reducible exact nth18) | (with_reducible exact nth19) | (with_reducible exact nth20) | (with_reducible exact nth21) | (with_reducible exact nth22) | (with_reducible exact nth23)); (first | (with_reducible exact nth0) | (with_reducible exact nth1) | (with_reducible exact nth2) | (with_reducible exact nth3) | (with_reducible exact nth4) | (with_reducible exact nth5) | (with_reducible exact nth6) | (with_reducible exact nth7) | (with_reducible exact nth8) | (with_reducible exact nth9) | (with_reducible exact nth10) | (with_reducible exact nth11) | (with_reducible exact nth12) | (with_reducible exact nth13) | (with_reducible exact nth14) | (with_reducible exact nth15) | (with_reducible exact nth16) | (with_reducible exact nth17) | (with_reducible exact nth18) | (with_reducible exact nth19) | (with_reducible exact nth20) | (with_reducible exact nth21) | (with_reducible exact nth22) | (with_reducible exact nth23)); rfl; rfl; (intro KP hKP; ((refine oper_append_at _ _ _ _ rfl 9 ii _ 1 16 Tryz.underlying37 Jii.out.1 Jii.out.2.1 Jii.out.2.2.1 Jii.out.2.2.2 rfl (by decide) _ _ rfl ?qc148 ?qc149 _ _ _ (strCells S1) rfl ?qc150 ?qc151 ?qc152 ?qc153 ?qc154 ?_); (case qc148 => (first | (dsimp only; omega) | omega | (simp only [World.size_alloc, World.size_setCell, World.size_drew]; omega))); (case qc149 => (first | exact lit0_at (W := z.w.drew) rfl (Nat.le_refl _) (Below.refl _ _) | exact lit0_at (W := z.w.drew) rfl (Nat.le_refl _) ((Below.refl _ _).alloc (Nat.le_refl _) _) | exact lit0_at (W := z.w.drew.alloc (.cells #[.string s] 9)) (by simp only [World.size_alloc, World.size_drew]) (by simp only [World.size_alloc, World.size_drew]; omega) (Below.refl _ _))); (case qc150 => (first | rfl | (simp; done) | (first | omega | (simp only [List.length_append, List.length_cons, List.length_nil]; omega)))); (case qc151 => exact hr1.out.bel (by (repeat (first | (with_reducible exact Below.refl _ _) | (with_reducible assumption) | (with_reducible refine Later.out _ ?_) | (with_reducible refine bel_alloc ?_ _) | (with_reducible refine bel_drew ?_) | (with_reducible refine bel_drewN ?_ _) | (with_reducible refine bel_set ?_ ?_ _) | (with_reducible refine After.out _ ?_ ?_) | (dsimp only; omega) | omega | (simp only [World.size_alloc, World.size_setCell, World.size_drew]; omega))))); (case qc152 => exact one_str S1); (case qc153 => (unfold maxLen; (first | omega | (simp only [List.length_append, List.length_cons, List.length_nil]; omega)))); (case qc154 => (first | omega | (simp only [List.length_append, List.length_cons, List.length_nil]; omega))); intro a6 c6 x6 hown6; replace hown6 := Lib.hid hown6); refine hKP _ _ (LaterC.mk (by (repeat (first | (with_reducible exact Below.refl _ _) | (with_reducible assumption) | (with_reducible refine Later.out _ ?_) | (with_reducible refine bel_alloc ?_ _) | (with_reducible refine bel_drew ?_) | (with_reducible refine bel_drewN ?_ _) | (with_reducible refine bel_set ?_ ?_ _) | (with_reducible refine After.out _ ?_ ?_) | (dsimp only; omega) | omega | (simp only [World.size_alloc, World.size_setCell, World.size_drew]; omega))))) ?_; clear hKP KP); rotate_left; (intro KP hKP; go_wp2_with fail; refine hKP _ _ (LaterC.mk (by (repeat (first | (with_reducible exact Below.refl _ _) | (with_reducible assumption) | (with_reducible refine Later.out _ ?_) | (with_reducible refine bel_alloc ?_ _) | (with_reducible refine bel_drew ?_) | (with_reducible refine bel_drewN ?_ _) | (with_reducible refine bel_set ?_ ?_ _) | (with_reducible refine After.out _ ?_ ?_) | (dsimp only; omega) | omega | (simp only [World.size_alloc, World.size_setCell, World.size_drew]; omega))))) ?_; clear hKP KP); (try simp only [List.filter, bne_self_eq_false, Nat.reduceBNe])) | ((with_reducible apply float_fork); rfl; (first | (with_reducible exact nth0) | (with_reducible exact nth1) | (with_reducible exact nth2) | (with_reducible exact nth3) | (with_reducible exact nth4) | (with_reducible exact nth5) | (with_reducible exact nth6) | (with_reducible exact nth7) | (with_reducible exact nth8) | (with_reducible exact nth9) | (with_reducible exact nth10) | (with_reducible exact nth11) | (with_reducible exact nth12) | (with_reducible exact nth13) | (with_reducible exact nth14) | (with_reducible exact nth15) | (with_reducible exact nth16) | (with_reducible exact nth17) | (with_reducible exact nth18) | (with_reducible exact nth19) | (with_reducible exact nth20) | (with_reducible exact nth21) | (with_reducible exact nth22) | (with_reducible exact nth23)); (first | (with_reducible exact nth0) | (with_reducible exact nth1) | (with_reducible exact nth2) | (with_reducible exact nth3) | (with_reducible exact nth4) | (with_reducible exact nth5) | (with_reducible exact nth6) | (with_reducible exact nth7) | (with_reducible exact nth8) | (with_reducible exact nth9) | (with_reducible exact nth10) | (with_reducible exact nth11) | (with_reducible exact nth12) | (with_reducible exact nth13) | (with_reducible exact nth14) | (with_reducible exact nth15) | (with_reducible exact nth16) | (with_reducible exact nth17) | (with_reducible exact nth18) | (with_reducible exact nth19) | (with_reducible exact nth20) | (with_reducible exact nth21) | (with_reducible exact nth22) | (with_reducible exact nth23)); rfl; rfl; (intro KP hKP; ((refine oper_append_later _ _ _ _ rfl 9 ii _ 1 16 Tryz.underlying37 Jii.out.1 Jii.out.2.1 Jii.out.2.2.1 Jii.out.2.2.2 rfl (by decide) (z.w) ?qa71 _ _ _ (strCells S1) rfl ?qa72 _ _ _ ([.string s]) rfl ?qa73 ?qa74 ?qa75 ?qa76 ?qa77 ?_); (case qa71 => (repeat (first | (with_reducible exact Below.refl _ _) | (with_reducible assumption) | (with_reducible refine Later.out _ ?_) | (with_reducible refine bel_alloc ?_ _) | (with_reducible refine bel_drew ?_) | (with_reducible refine bel_drewN ?_ _) | (with_reducible refine bel_set ?_ ?_ _) | (with_reducible refine After.out _ ?_ ?_) | (dsimp only; omega) | omega | (simp only [World.size_alloc, World.size_setCell, World.size_drew]; omega)))); (case qa72 => exact own_mono (own_bel hown6.out (by (repeat (first | (with_reducible exact Below.refl _ _) | (with_reducible assumption) | (with_reducible refine Later.out _ ?_) | (with_reducible refine bel_alloc ?_ _) | (with_reducible refine bel_drew ?_) | (with_reducible refine bel_drewN ?_ _) | (with_reducible refine bel_set ?_ ?_ _) | (with_reducible refine After.out _ ?_ ?_) | (dsimp only; omega) | omega | (simp only [World.size_alloc, World.size_setCell, World.size_drew]; omega))))) (by first | exact Nat.le_refl _ | omega | (simp only [World.size_alloc, World.size_drew]; omega))); (case qa73 => (first | rfl | (simp [boolCells]; done) | (simp [intCells]; done) | (simp; done) | (first | omega | (simp only [List.length_append, List.length_cons, List.length_nil]; omega)))); (case qa74 => (first | exact Row.madeAt (by first | rfl | (simp only [World.size_alloc, World.size_drew])) rfl | exact ((Row.madeAt (w := z.w.alloc (.cells #[] 9)) (cs := #[.string s]) (e := 9) (by simp only [World.size_alloc]) rfl).bel ((Below.refl _ _).drew)).btw x6.btw (fun p hp => by cases hp; first | (dsimp only; omega) | (simp only [World.size_alloc, World.size_drew]; omega)) | exact (((Row.madeAt (w := z.w) (cs := #[.string s]) (e := 9) rfl rfl).alloc (.cells #[] 9)).bel ((Below.refl _ _).drew)).btw x6.btw (fun p hp => by cases hp; first | (dsimp only; omega) | (simp only [World.size_alloc, World.size_drew]; omega)))); (case qa75 => exact one_str1 s); (case qa76 => (unfold maxLen; (first | omega | (simp only [List.length_append, List.length_cons, List.length_nil]; omega)))); (case qa77 => (first | omega | (simp only [List.length_append, List.length_cons, List.length_nil]; omega))); intro a7 c7 x7 hown7; replace hown7 := Lib.hid hown7); refine hKP _ _ (LaterC.mk (by (repeat (first | (with_reducible exact Below.refl _ _) | (with_reducible assumption) | (with_reducible refine Later.out _ ?_) | (with_reducible refine bel_alloc ?_ _) | (with_reducible refine bel_drew ?_) | (with_reducible refine bel_drewN ?_ _) | (with_reducible refine bel_set ?_ ?_ _) | (with_reducible refine After.out _ ?_ ?_) | (dsimp only; omega) | omega | (simp only [World.size_alloc, World.size_setCell, World.size_drew]; omega))))) ?_; clear hKP KP); rotate_left; (intro KP hKP; go_wp2_with fail; refine hKP _ _ (LaterC.mk (by (repeat (first | (with_reducible exact Below.refl _ _) | (with_reducible assumption) | (with_reducible refine Later.out _ ?_) | (with_reducible refine bel_alloc ?_ _) | (with_reducible refine bel_drew ?_) | (with_reducible refine bel_drewN ?_ _) | (with_reducible refine bel_set ?_ ?_ _) | (with_reducible refine After.out _ ?_ ?_) | (dsimp only; omega) | omega | (simp only [World.size_alloc, World.size_setCell, World.size_drew]; omega))))) ?_; clear hKP KP); (try simp only [List.filter, bne_self_eq_false, Nat.reduceBNe])) | ((with_reducible apply float_fork); rfl; (first | (with_reducible exact nth0) | (with_reducible exact nth1) | (with_reducible exact nth2) | (with_reducible exact nth3) | (with_reducible exact nth4) | (with_reducible exact nth5) | (with_reducible exact nth6) | (with_reducible exact nth7) | (with_reducible exact nth8) | (with_reducible exact nth9) | (with_reducible exact nth10) | (with_reducible exact nth11) | (with_reducible exact nth12) | (with_reducible exact nth13) | (with_reducible exact nth14) | (with_reducible exact nth15) | (with_reducible exact nth16) | (with_reducible exact nth17) | (with_reducible exact nth18) | (with_reducible exact nth19) | (with_reducible exact nth20) | (with_reducible exact nth21) | (with_reducible exact nth22) | (with_reducible exact nth23)); (first | (with_reducible exact nth0) | (with_reducible exact nth1) | (with_reducible exact nth2) | (with_reducible exact nth3) | (with_reducible exact nth4) | (with_reducible exact nth5) | (with_reducible exact nth6) | (with_reducible exact nth7) | (with_reducible exact nth8) | (with_reducible exact nth9) | (with_reducible exact nth10) | (with_reducible exact nth11) | (with_reducible exact nth12) | (with_reducible exact nth13) | (with_reducible exact nth14) | (with_reducible exact nth15) | (with_reducible exact nth16) | (with_reducible exact nth17) | (with_reducible exact nth18) | (with_reducible exact nth19) | (with_reducible exact nth20) | (with_reducible exact nth21) | (with_reducible exact nth22) | (with_reducible exact nth23)); rfl; rfl; (intro KP hKP; ((refine oper_append_later _ _ _ _ rfl 9 ii _ 1 16 Tryz.underlying37 Jii.out.1 Jii.out.2.1 Jii.out.2.2.1 Jii.out.2.2.2 rfl (by decide) (z.w) ?qa78 _ _ _ (strCells S1 ++ [.string s]) rfl ?qa79 _ _ _ (strCells S2) rfl ?qa80 ?qa81 ?qa82 ?qa83 ?qa84 ?_); (case qa78 => (repeat (first | (with_reducible exact Below.refl _ _) | (with_reducible assumption) | (with_reducible refine Later.out _ ?_) | (with_reducible refine bel_alloc ?_ _) | (with_reducible refine bel_drew ?_) | (with_reducible refine bel_drewN ?_ _) | (with_reducible refine bel_set ?_ ?_ _) | (with_reducible refine After.out _ ?_ ?_) | (dsimp only; omega) | omega | (simp only [World.size_alloc, World.size_setCell, World.size_drew]; omega)))); (case qa79 => exact own_bel hown7.out (by (repeat (first | (with_reducible exact Below.refl _ _) | (with_reducible assumption) | (with_reducible refine Later.out _ ?_) | (with_reducible refine bel_alloc ?_ _) | (with_reducible refine bel_drew ?_) | (with_reducible refine bel_drewN ?_ _) | (with_reducible refine bel_set ?_ ?_ _) | (with_reducible refine After.out _ ?_ ?_) | (dsimp only; omega) | omega | (simp only [World.size_alloc, World.size_setCell, World.size_drew]; omega))))); (case qa80 => (first | rfl | (simp [boolCells]; done) | (simp [intCells]; done) | (simp; done) | (first | omega | (simp only [List.length_append, List.length_cons, List.length_nil]; omega)))); (case qa81 => exact hr2.out _ _); (case qa82 => exact one_str S2); (case qa83 => (unfold maxLen; (first | omega | (simp only [List.length_append, List.length_cons, List.length_nil]; omega)))); (case qa84 => (first | omega | (simp only [List.length_append, List.length_cons, List.length_nil]; omega))); intro a8 c8 x8 hown8; replace hown8 := Lib.hid hown8); refine hKP _ _ (LaterC.mk (by (repeat (first | (with_reducible exact Below.refl _ _) | (with_reducible assumption) | (with_reducible refine Later.out _ ?_) | (with_reducible refine bel_alloc ?_ _) | (with_reducible refine bel_drew ?_) | (with_reducible refine bel_drewN ?_ _) | (with_reducible refine bel_set ?_ ?_ _) | (with_reducible refine After.out _ ?_ ?_) | (dsimp only; omega) | omega | (simp only [World.size_alloc, World.size_setCell, World.size_drew]; omega))))) ?_; clear hKP KP); rotate_left; (intro KP hKP; go_wp2_with fail; refine hKP _ _ (LaterC.mk (by (repeat (first | (with_reducible exact Below.refl _ _) | (with_reducible assumption) | (with_reducible refine Later.out _ ?_) | (with_reducible refine bel_alloc ?_ _) | (with_reducible refine bel_drew ?_) | (with_reducible refine bel_drewN ?_ _) | (with_reducible refine bel_set ?_ ?_ _) | (with_reducible refine After.out _ ?_ ?_) | (dsimp only; omega) | omega | (simp only [World.size_alloc, World.size_setCell, World.size_drew]; omega))))) ?_; clear hKP KP); (try simp only [List.filter, bne_self_eq_false, Nat.reduceBNe])) | ((with_reducible apply float_fork); rfl; (first | (with_reducible exact nth0) | (with_reducible exact nth1) | (with_reducible exact nth2) | (with_reducible exact nth3) | (with_reducible exact nth4) | (with_reducible exact nth5) | (with_reducible exact nth6) | (with_reducible exact nth7) | (with_reducible exact nth8) | (with_reducible exact nth9) | (with_reducible exact nth10) | (with_reducible exact nth11) | (with_reducible exact nth12) | (with_reducible exact nth13) | (with_reducible exact nth14) | (with_reducible exact nth15) | (with_reducible exact nth16) | (with_reducible exact nth17) | (with_reducible exact nth18) | (with_reducible exact nth19) | (with_reducible exact nth20) | (with_reducible exact nth21) | (with_reducible exact nth22) | (with_reducible exact nth23)); (first | (with_reducible exact nth0) | (with_reducible exact nth1) | (with_reducible exact nth2) | (with_reducible exact nth3) | (with_reducible exact nth4) | (with_reducible exact nth5) | (with_reducible exact nth6) | (with_reducible exact nth7) | (with_reducible exact nth8) | (with_reducible exact nth9) | (with_reducible exact nth10) | (with_reducible exact nth11) | (with_reducible exact nth12) | (with_reducible exact nth13) | (with_reducible exact nth14) | (with_reducible exact nth15) | (with_reducible exact nth16) | (with_reducible exact nth17) | (with_reducible exact nth18) | (with_reducible exact nth19) | (with_reducible exact nth20) | (with_reducible exact nth21) | (with_reducible exact nth22) | (with_reducible exact nth23)); rfl; rfl; (intro KP hKP; go_wp2_with fail; refine hKP _ _ (LaterC.mk (by (repeat (first | (with_reducible exact Below.refl _ _) | (with_reducible assumption) | (with_reducible refine Later.out _ ?_) | (with_reducible refine bel_alloc ?_ _) | (with_reducible refine bel_drew ?_) | (with_reducible refine bel_drewN ?_ _) | (with_reducible refine bel_set ?_ ?_ _) | (with_reducible refine After.out _ ?_ ?_) | (dsimp only; omega) | omega | (simp only [World.size_alloc, World.size_setCell, World.size_drew]; omega))))) ?_; clear hKP KP); rotate_left; (intro KP hKP; go_wp2_with fail; refine hKP _ _ (LaterC.mk (by (repeat (first | (with_reducible exact Below.refl _ _) | (with_reducible assumption) | (with_reducible refine Later.out _ ?_) | (with_reducible refine bel_alloc ?_ _) | (with_reducible refine bel_drew ?_) | (with_reducible refine bel_drewN ?_ _) | (with_reducible refine bel_set ?_ ?_ _) | (with_reducible refine After.out _ ?_ ?_) | (dsimp only; omega) | omega | (simp only [World.size_alloc, World.size_setCell, World.size_drew]; omega))))) ?_; clear hKP KP); (try simp only [List.filter, bne_self_eq_false, Nat.reduceBNe])) | ((with_reducible apply float_last); (first | (with_reducible exact nth0) | (with_reducible exact nth1) | (with_reducible exact nth2) | (with_reducible exact nth3) | (with_reducible exact nth4) | (with_reducible exact nth5) | (with_reducible exact nth6) | (with_reducible exact nth7) | (with_reducible exact nth8) | (with_reducible exact nth9) | (with_reducible exact nth10) | (with_reducible exact nth11) | (with_reducible exact nth12) | (with_reducible exact nth13) | (with_reducible exact nth14) | (with_reducible exact nth15) | (with_reducible exact nth16) | (with_reducible exact nth17) | (with_reducible exact nth18) | (with_reducible exact nth19) | (with_reducible exact nth20) | (with_reducible exact nth21) | (with_reducible exact nth22) | (with_reducible exact nth23)); rfl; (intro KP hKP; go_wp2_with fail; refine hKP _ _ (LaterC.mk (by (repeat (first | (with_reducible exact Below.refl _ _) | (with_reducible assumption) | (with_reducible refine Later.out _ ?_) | (with_reducible refine bel_alloc ?_ _) | (with_reducible refine bel_drew ?_) | (with_reducible refine bel_drewN ?_ _) | (with_reducible refine bel_set ?_ ?_ _) | (with_reducible refine After.out _ ?_ ?_) | (dsimp only; omega) | omega | (simp only [World.size_alloc, World.size_setCell, World.size_drew]; omega))))) ?_; clear hKP KP)) | ((with_reducible apply plan_loud); (first | (with_reducible exact nth0) | (with_reducible exact nth1) | (with_reducible exact nth2) | (with_reducible exact nth3) | (with_reducible exact nth4) | (with_reducible exact nth5) | (with_reducible exact nth6) | (with_reducible exact nth7) | (with_reducible exact nth8) | (with_reducible exact nth9) | (with_reducible exact nth10) | (with_reducible exact nth11) | (with_reducible exact nth12) | (with_reducible exact nth13) | (with_reducible exact nth14) | (with_reducible exact nth15) | (with_reducible exact nth16) | (with_reducible exact nth17) | (with_reducible exact nth18) | (with_reducible exact nth19) | (with_reducible exact nth20) | (with_reducible exact nth21) | (with_reducible exact nth22) | (with_reducible exact nth23)); rfl; (intro KP hKP; go_wp2_with fail; refine hKP _ _ (LaterC.mk (by (repeat (first | (with_reducible exact Below.refl _ _) | (with_reducible assumption) | (with_reducible refine Later.out _ ?_) | (with_reducible refine bel_alloc ?_ _) | (with_reducible refine bel_drew ?_) | (with_reducible refine bel_drewN ?_ _) | (with_reducible refine bel_set ?_ ?_ _) | (with_reducible refine After.out _ ?_ ?_) | (dsimp only; omega) | omega | (simp only [World.size_alloc, World.size_setCell, World.size_drew]; omega))))) ?_; clear hKP KP))))
          all_goals (simp only [Act.put, List.setIfInBounds_toArray, List.set_cons_zero, List.set_cons_succ])
          all_goals (refine plan_quiet nth12 rfl ?_; intro KP hKP; go_big_quiet_op; go_big_quiet_on)
          all_goals (refine plan_nil ?_)
          all_goals go_wp2_with fail
          all_goals go_ret
          all_goals exact RetTexts.mk X.out (by rw [cells3]; exact own_mono hown8.out hlz) (by omega) (by simp only [List.length_append, List.length_cons, List.length_nil]; omega) (by (repeat (first | (with_reducible exact Below.refl _ _) | (with_reducible assumption) | (with_reducible refine Later.out _ ?_) | (with_reducible refine bel_alloc ?_ _) | (with_reducible refine bel_drew ?_) | (with_reducible refine bel_drewN ?_ _) | (with_reducible refine bel_set ?_ ?_ _) | (with_reducible refine After.out _ ?_ ?_) | (dsimp only; omega) | omega | (simp only [World.size_alloc, World.size_setCell, World.size_drew]; omega))))
        · have hck2 : ¬ (c : Int) = (A.length : Int) := by omega
          go_wp2_with fail
          refine wp_region_float 6 [(1, true), (2, true), (3, true), (5, true), (8, true), (9, true), (10, true), (0, false), (4, false), (6, false), (7, false), (11, false), (12, true)] (C := LaterC _) (by kernel_rfl) (by kernel_rfl) (by kernel_rfl) rfl (fun _ _ d _ _ h => by cases d <;> exact h) (LaterC.mk ((Below.refl _ _).drew)) ?_
          repeat (any_goals (first | (with_reducible apply plan_nil) | ((with_reducible apply float_quiet); (first | (with_reducible exact nth0) | (with_reducible exact nth1) | (with_reducible exact nth2) | (with_reducible exact nth3) | (with_reducible exact nth4) | (with_reducible exact nth5) | (with_reducible exact nth6) | (with_reducible exact nth7) | (with_reducible exact nth8) | (with_reducible exact nth9) | (with_reducible exact nth10) | (with_reducible exact nth11) | (with_reducible exact nth12) | (with_reducible exact nth13) | (with_reducible exact nth14) | (with_reducible exact nth15) | (with_reducible exact nth16) | (with_reducible exact nth17) | (with_reducible exact nth18) | (with_reducible exact nth19) | (with_reducible exact nth20) | (with_reducible exact nth21) | (with_reducible exact nth22) | (with_reducible exact nth23)); rfl; intro KP hKP; go_big_quiet_op; go_big_quiet_on) | ((with_reducible apply float_skip); (first | (with_reducible exact nth0) | (with_reducible exact nth1) | (with_reducible exact nth2) | (with_reducible exact nth3) | (with_reducible exact nth4) | (with_reducible exact nth5) | (with_reducible exact nth6) | (with_reducible exact nth7) | (with_reducible exact nth8) | (with_reducible exact nth9) | (with_reducible exact nth10) | (with_reducible exact nth11) | (with_reducible exact nth12) | (with_reducible exact nth13) | (with_reducible exact nth14) | (with_reducible exact nth15) | (with_reducible exact nth16) | (with_reducible exact nth17) | (with_reducible exact nth18) | (with_reducible exact nth19) | (with_reducible exact nth20) | (with_reducible exact nth21) | (with_reducible exact nth22) | (with_reducible exact nth23)); rfl; rfl; simp only [Act.put, List.setIfInBounds_toArray, List.set_cons_zero, List.set_cons_succ]) | ((with_reducible apply plan_quiet); (first | (with_reducible exact nth0) | (with_reducible exact nth1) | (with_reducible exact nth2) | (with_reducible exact nth3) | (with_reducible exact nth4) | (with_reducible exact nth5) | (with_reducible exact nth6) | (with_reducible exact nth7) | (with_reducible exact nth8) | (with_reducible exact nth9) | (with_reducible exact nth10) | (with_reducible exact nth11) | (with_reducible exact nth12) | (with_reducible exact nth13) | (with_reducible exact nth14) | (with_reducible exact nth15) | (with_reducible exact nth16) | (with_reducible exact nth17) | (with_reducible exact nth18) | (with_reducible exact nth19) | (with_reducible exact nth20) | (with_reducible exact nth21) | (with_reducible exact nth22) | (with_reducible exact nth23)); rfl; intro KP hKP; go_big_quiet_op; go_big_quiet_on) | ((with_reducible apply plan_skip_q); (first | (with_reducible exact nth0) | (with_reducible exact nth1) | (with_reducible exact nth2) | (with_reducible exact nth3) | (with_reducible exact nth4) | (with_reducible exact nth5) | (with_reducible exact nth6) | (with_reducible exact nth7) | (with_reducible exact nth8) | (with_reducible exact nth9) | (with_reducible exact nth10) | (with_reducible exact nth11) | (with_reducible exact nth12) | (with_reducible exact nth13) | (with_reducible exact nth14) | (with_reducible exact nth15) | (with_reducible exact nth16) | (with_reducible exact nth17) | (with_reducible exact nth18) | (with_reducible exact nth19) | (with_reducible exact nth20) | (with_reducible exact nth21) | (with_reducible exact nth22) | (with_reducible exact nth23)); rfl; rfl; simp only [Act.put, List.setIfInBounds_toArray, List.set_cons_zero, List.set_cons_succ]) | ((with_reducible apply plan_loud); (first | (with_reducible exact nth0) | (with_reducible exact nth1) | (with_reducible exact nth2) | (with_reducible exact nth3) | (with_reducible exact nth4) | (with_reducible exact nth5) | (with_reducible exact nth6) | (with_reducible exact nth7) | (with_reducible exact nth8) | (with_reducible exact nth9) | (with_reducible exact nth10) | (with_reducible exact nth11) | (with_reducible exact nth12) | (with_reducible exact nth13) | (with_reducible exact nth14) | (with_reducible exact nth15) | (with_reducible exact nth16) | (with_reducible exact nth17) | (with_reducible exact nth18) | (with_reducible exact nth19) | (with_reducible exact nth20) | (with_reducible exact nth21) | (with_reducible exact nth22) | (with_reducible exact nth23)); rfl; intro KP hKP; ((refine oper_append_at _ _ _ _ rfl 9 ii _ 1 16 Tryz.underlying37 Jii.out.1 Jii.out.2.1 Jii.out.2.2.1 Jii.out.2.2.2 rfl (by decide) _ _ rfl ?qc155 ?qc156 _ _ _ (strCells S1) rfl ?qc157 ?qc158 ?qc159 ?qc160 ?qc161 ?_); (case qc155 => (first | (dsimp only; omega) | omega | (simp only [World.size_alloc, World.size_setCell, World.size_drew]; omega))); (case qc156 => (first | exact lit0_at (W := z.w.drew) rfl (Nat.le_refl _) (Below.refl _ _) | exact lit0_at (W := z.w.drew) rfl (Nat.le_refl _) ((Below.refl _ _).alloc (Nat.le_refl _) _) | exact lit0_at (W := z.w.drew.alloc (.cells #[.string s] 9)) (by simp only [World.size_alloc, World.size_drew]) (by simp only [World.size_alloc, World.size_drew]; omega) (Below.refl _ _))); (case qc157 => (first | rfl | (simp; done) | (first | omega | (simp only [List.length_append, List.length_cons, List.length_nil]; omega)))); (case qc158 => exact hr1.out.bel (by (repeat (first | (with_reducible exact Below.refl _ _) | (with_reducible assumption) | (with_reducible refine Later.out _ ?_) | (with_reducible refine bel_alloc ?_ _) | (with_reducible refine bel_drew ?_) | (with_reducible refine bel_drewN ?_ _) | (with_reducible refine bel_set ?_ ?_ _) | (with_reducible refine After.out _ ?_ ?_) | (dsimp only; omega) | omega | (simp only [World.size_alloc, World.size_setCell, World.size_drew]; omega))))); (case qc159 => exact one_str S1); (case qc160 => (unfold maxLen; (first | omega | (simp only [List.length_append, List.length_cons, List.length_nil]; omega)))); (case qc161 => (first | omega | (simp only [List.length_append, List.length_cons, List.length_nil]; omega))); intro a6 c6 x6 hown6; replace hown6 := Lib.hid hown6); refine hKP _ _ (LaterC.mk (by (repeat (first | (with_reducible exact Below.refl _ _) | (with_reducible assumption) | (with_reducible refine Later.out _ ?_) | (with_reducible refine bel_alloc ?_ _) | (with_reducible refine bel_drew ?_) | (with_reducible refine bel_drewN ?_ _) | (with_reducible refine bel_set ?_ ?_ _) | (with_reducible refine After.out _ ?_ ?_) | (dsimp only; omega) | omega | (simp only [World.size_alloc, World.size_setCell, World.size_drew]; omega))))) ?_; clear hKP KP) | ((with_reducible apply plan_loud); (first | (with_reducible exact nth0) | (with_reducible exact nth1) | (with_reducible exact nth2) | (with_reducible exact nth3) | (with_reducible exact nth4) | (with_reducible exact nth5) | (with_reducible exact nth6) | (with_reducible exact nth7) | (with_reducible exact nth8) | (with_reducible exact nth9) | (with_reducible exact nth10) | (with_reducible exact nth11) | (with_reducible exact nth12) | (with_reducible exact nth13) | (with_reducible exact nth14) | (with_reducible exact nth15) | (with_reducible exact nth16) | (with_reducible exact nth17) | (with_reducible exact nth18) | (with_reducible exact nth19) | (with_reducible exact nth20) | (with_reducible exact nth21) | (with_reducible exact nth22) | (with_reducible exact nth23)); rfl; intro KP hKP; ((refine oper_append_later _ _ _ _ rfl 9 ii _ 1 16 Tryz.underlying37 Jii.out.1 Jii.out.2.1 Jii.out.2.2.1 Jii.out.2.2.2 rfl (by decide) (z.w) ?qa85 _ _ _ (strCells S1) rfl ?qa86 _ _ _ ([.string s]) rfl ?qa87 ?qa88 ?qa89 ?qa90 ?qa91 ?_); (case qa85 => (repeat (first | (with_reducible exact Below.refl _ _) | (with_reducible assumption) | (with_reducible refine Later.out _ ?_) | (with_reducible refine bel_alloc ?_ _) | (with_reducible refine bel_drew ?_) | (with_reducible refine bel_drewN ?_ _) | (with_reducible refine bel_set ?_ ?_ _) | (with_reducible refine After.out _ ?_ ?_) | (dsimp only; omega) | omega | (simp only [World.size_alloc, World.size_setCell, World.size_drew]; omega)))); (case qa86 => exact own_mono (own_bel hown6.out (by (repeat (first | (with_reducible exact Below.refl _ _) | (with_reducible assumption) | (with_reducible refine Later.out _ ?_) | (with_reducible refine bel_alloc ?_ _) | (with_reducible refine bel_drew ?_) | (with_reducible refine bel_drewN ?_ _) | (with_reducible refine bel_set ?_ ?_ _) | (with_reducible refine After.out _ ?_ ?_) | (dsimp only; omega) | omega | (simp only [World.size_alloc, World.size_setCell, World.size_drew]; omega))))) (by first | exact Nat.le_refl _ | omega | (simp only [World.size_alloc, World.size_drew]; omega))); (case qa87 => (first | rfl | (simp [boolCells]; done) | (simp [intCells]; done) | (simp; done) | (first | omega | (simp only [List.length_append, List.length_cons, List.length_nil]; omega)))); (case qa88 => (first | exact Row.madeAt (by first | rfl | (simp only [World.size_alloc, World.size_drew])) rfl | exact ((Row.madeAt (w := z.w.alloc (.cells #[] 9)) (cs := #[.string s]) (e := 9) (by simp only [World.size_alloc]) rfl).bel ((Below.refl _ _).drew)).btw x6.btw (fun p hp => by cases hp; first | (dsimp only; omega) | (simp only [World.size_alloc, World.size_drew]; omega)) | exact (((Row.madeAt (w := z.w) (cs := #[.string s]) (e := 9) rfl rfl).alloc (.cells #[] 9)).bel ((Below.refl _ _).drew)).btw x6.btw (fun p hp => by cases hp; first | (dsimp only; omega) | (simp only [World.size_alloc, World.size_drew]; omega)))); (case qa89 => exact one_str1 s); (case qa90 => (unfold maxLen; (first | omega | (simp only [List.length_append, List.length_cons, List.length_nil]; omega)))); (case qa91 => (first | omega | (simp only [List.length_append, List.length_cons, List.length_nil]; omega))); intro a7 c7 x7 hown7; replace hown7 := Lib.hid hown7); refine hKP _ _ (LaterC.mk (by (repeat (first | (with_reducible exact Below.refl _ _) | (with_reducible assumption) | (with_reducible refine Later.out _ ?_) | (with_reducible refine bel_alloc ?_ _) | (with_reducible refine bel_drew ?_) | (with_reducible refine bel_drewN ?_ _) | (with_reducible refine bel_set ?_ ?_ _) | (with_reducible refine After.out _ ?_ ?_) | (dsimp only; omega) | omega | (simp only [World.size_alloc, World.size_setCell, World.size_drew]; omega))))) ?_; clear hKP KP) | ((with_reducible apply plan_loud); (first | (with_reducible exact nth0) | (with_reducible exact nth1) | (with_reducible exact nth2) | (with_reducible exact nth3) | (with_reducible exact nth4) | (with_reducible exact nth5) | (with_reducible exact nth6) | (with_reducible exact nth7) | (with_reducible exact nth8) | (with_reducible exact nth9) | (with_reducible exact nth10) | (with_reducible exact nth11) | (with_reducible exact nth12) | (with_reducible exact nth13) | (with_reducible exact nth14) | (with_reducible exact nth15) | (with_reducible exact nth16) | (with_reducible exact nth17) | (with_reducible exact nth18) | (with_reducible exact nth19) | (with_reducible exact nth20) | (with_reducible exact nth21) | (with_reducible exact nth22) | (with_reducible exact nth23)); rfl; intro KP hKP; ((refine oper_append_later _ _ _ _ rfl 9 ii _ 1 16 Tryz.underlying37 Jii.out.1 Jii.out.2.1 Jii.out.2.2.1 Jii.out.2.2.2 rfl (by decide) (z.w) ?qa92 _ _ _ (strCells S1 ++ [.string s]) rfl ?qa93 _ _ _ (strCells S2) rfl ?qa94 ?qa95 ?qa96 ?qa97 ?qa98 ?_); (case qa92 => (repeat (first | (with_reducible exact Below.refl _ _) | (with_reducible assumption) | (with_reducible refine Later.out _ ?_) | (with_reducible refine bel_alloc ?_ _) | (with_reducible refine bel_drew ?_) | (with_reducible refine bel_drewN ?_ _) | (with_reducible refine bel_set ?_ ?_ _) | (with_reducible refine After.out _ ?_ ?_) | (dsimp only; omega) | omega | (simp only [World.size_alloc, World.size_setCell, World.size_drew]; omega)))); (case qa93 => exact own_bel hown7.out (by (repeat (first | (with_reducible exact Below.refl _ _) | (with_reducible assumption) | (with_reducible refine Later.out _ ?_) | (with_reducible refine bel_alloc ?_ _) | (with_reducible refine bel_drew ?_) | (with_reducible refine bel_drewN ?_ _) | (with_reducible refine bel_set ?_ ?_ _) | (with_reducible refine After.out _ ?_ ?_) | (dsimp only; omega) | omega | (simp only [World.size_alloc, World.size_setCell, World.size_drew]; omega))))); (case qa94 => (first | rfl | (simp [boolCells]; done) | (simp [intCells]; done) | (simp; done) | (first | omega | (simp only [List.length_append, List.length_cons, List.length_nil]; omega)))); (case qa95 => exact hr2.out _ _); (case qa96 => exact one_str S2); (case qa97 => (unfold maxLen; (first | omega | (simp only [List.length_append, List.length_cons, List.length_nil]; omega)))); (case qa98 => (first | omega | (simp only [List.length_append, List.length_cons, List.length_nil]; omega))); intro a8 c8 x8 hown8; replace hown8 := Lib.hid hown8); refine hKP _ _ (LaterC.mk (by (repeat (first | (with_reducible exact Below.refl _ _) | (with_reducible assumption) | (with_reducible refine Later.out _ ?_) | (with_reducible refine bel_alloc ?_ _) | (with_reducible refine bel_drew ?_) | (with_reducible refine bel_drewN ?_ _) | (with_reducible refine bel_set ?_ ?_ _) | (with_reducible refine After.out _ ?_ ?_) | (dsimp only; omega) | omega | (simp only [World.size_alloc, World.size_setCell, World.size_drew]; omega))))) ?_; clear hKP KP) | ((with_reducible apply float_fork); rfl; (first | (with_reducible exact nth0) | (with_reducible exact nth1) | (with_reducible exact nth2) | (with_reducible exact nth3) | (with_reducible exact nth4) | (with_reducible exact nth5) | (with_reducible exact nth6) | (with_reducible exact nth7) | (with_reducible exact nth8) | (with_reducible exact nth9) | (with_reducible exact nth10) | (with_reducible exact nth11) | (with_reducible exact nth12) | (with_reducible exact nth13) | (with_reducible exact nth14) | (with_reducible exact nth15) | (with_reducible exact nth16) | (with_reducible exact nth17) | (with_reducible exact nth18) | (with_reducible exact nth19) | (with_reducible exact nth20) | (with_reducible exact nth21) | (with_reducible exact nth22) | (with_reducible exact nth23)); (first | (with_reducible exact nth0) | (with_reducible exact nth1) | (with_reducible exact nth2) | (with_reducible exact nth3) | (with_reducible exact nth4) | (with_reducible exact nth5) | (with_reducible exact nth6) | (with_reducible exact nth7) | (with_reducible exact nth8) | (with_reducible exact nth9) | (with_reducible exact nth10) | (with_reducible exact nth11) | (with_reducible exact nth12) | (with_reducible exact nth13) | (with_reducible exact nth14) | (with_reducible exact nth15) | (with_reducible exact nth16) | (with_reducible exact nth17) | (with_reducible exact nth18) | (with_reducible exact nth19) | (with_reducible exact nth20) | (with_reducible exact nth21) | (with_reducible exact nth22) | (with_reducible exact nth23)); rfl; rfl; (intro KP hKP; ((refine oper_append_at _ _ _ _ rfl 9 ii _ 1 16 Tryz.underlying37 Jii.out.1 Jii.out.2.1 Jii.out.2.2.1 Jii.out.2.2.2 rfl (by decide) _ _ rfl ?qc162 ?qc163 _ _ _ (strCells S1) rfl ?qc164 ?qc165 ?qc166 ?qc167 ?qc168 ?_); (case qc162 => (first | (dsimp only; omega) | omega | (simp only [World.size_alloc, World.size_setCell, World.size_drew]; omega))); (case qc163 => (first | exact lit0_at (W := z.w.drew) rfl (Nat.le_refl _) (Below.refl _ _) | exact lit0_at (W := z.w.drew) rfl (Nat.le_refl _) ((Below.refl _ _).alloc (Nat.le_refl _) _) | exact lit0_at (W := z.w.drew.alloc (.cells #[.string s] 9)) (by simp only [World.size_alloc, World.size_drew]) (by simp only [World.size_alloc, World.size_drew]; omega) (Below.refl _ _))); (case qc164 => (first | rfl | (simp; done) | (first | omega | (simp only [List.length_append, List.length_cons, List.length_nil]; omega)))); (case qc165 => exact hr1.out.bel (by (repeat (first | (with_reducible exact Below.refl _ _) | (with_reducible assumption) | (with_reducible refine Later.out _ ?_) | (with_reducible refine bel_alloc ?_ _) | (with_reducible refine bel_drew ?_) | (with_reducible refine bel_drewN ?_ _) | (with_reducible refine bel_set ?_ ?_ _) | (with_reducible refine After.out _ ?_ ?_) | (dsimp only; omega) | omega | (simp only [World.size_alloc, World.size_setCell, World.size_drew]; omega))))); (case qc166 => exact one_str S1); (case qc167 => (unfold maxLen; (first | omega | (simp only [List.length_append, List.length_cons, List.length_nil]; omega)))); (case qc168 => (first | omega | (simp only [List.length_append, List.length_cons, List.length_nil]; omega))); intro a6 c6 x6 hown6; replace hown6 := Lib.hid hown6); refine hKP _ _ (LaterC.mk (by (repeat (first | (with_reducible exact Below.refl _ _) | (with_reducible assumption) | (with_reducible refine Later.out _ ?_) | (with_reducible refine bel_alloc ?_ _) | (with_reducible refine bel_drew ?_) | (with_reducible refine bel_drewN ?_ _) | (with_reducible refine bel_set ?_ ?_ _) | (with_reducible refine After.out _ ?_ ?_) | (dsimp only; omega) | omega | (simp only [World.size_alloc, World.size_setCell, World.size_drew]; omega))))) ?_; clear hKP KP); rotate_left; (intro KP hKP; go_wp2_with fail; refine hKP _ _ (LaterC.mk (by (repeat (first | (with_reducible exact Below.refl _ _) | (with_reducible assumption) | (with_reducible refine Later.out _ ?_) | (with_reducible refine bel_alloc ?_ _) | (with_reducible refine bel_drew ?_) | (with_reducible refine bel_drewN ?_ _) | (with_reducible refine bel_set ?_ ?_ _) | (with_reducible refine After.out _ ?_ ?_) | (dsimp only; omega) | omega | (simp only [World.size_alloc, World.size_setCell, World.size_drew]; omega))))) ?_; clear hKP KP); (try simp only [List.filter, bne_self_eq_false, Nat.reduceBNe])) | ((with_reducible apply float_fork); rfl; (first | (with_reducible exact nth0) | (with_reducible exact nth1) | (with_reducible exact nth2) | (with_reducible exact nth3) | (with_reducible exact nth4) | (with_reducible exact nth5) | (with_reducible exact nth6) | (with_reducible exact nth7) | (with_reducible exact nth8) | (with_reducible exact nth9) | (with_reducible exact nth10) | (with_reducible exact nth11) | (with_reducible exact nth12) | (with_reducible exact nth13) | (with_reducible exact nth14) | (with_reducible exact nth15) | (with_reducible exact nth16) | (with_reducible exact nth17) | (with_reducible exact nth18) | (with_reducible exact nth19) | (with_reducible exact nth20) | (with_reducible exact nth21) | (with_reducible exact nth22) | (with_reducible exact nth23)); (first | (with_reducible exact nth0) | (with_reducible exact nth1) | (with_reducible exact nth2) | (with_reducible exact nth3) | (with_reducible exact nth4) | (with_reducible exact nth5) | (with_reducible exact nth6) | (with_reducible exact nth7) | (with_reducible exact nth8) | (with_reducible exact nth9) | (with_reducible exact nth10) | (with_reducible exact nth11) | (with_reducible exact nth12) | (with_reducible exact nth13) | (with_reducible exact nth14) | (with_reducible exact nth15) | (with_reducible exact nth16) | (with_reducible exact nth17) | (with_reducible exact nth18) | (with_reducible exact nth19) | (with_reducible exact nth20) | (with_reducible exact nth21) | (with_reducible exact nth22) | (with_reducible exact nth23)); rfl; rfl; (intro KP hKP; ((refine oper_append_later _ _ _ _ rfl 9 ii _ 1 16 Tryz.underlying37 Jii.out.1 Jii.out.2.1 Jii.out.2.2.1 Jii.out.2.2.2 rfl (by decide) (z.w) ?qa99 _ _ _ (strCells S1) rfl ?qa100 _ _ _ ([.string s]) rfl ?qa101 ?qa102 ?qa103 ?qa104 ?qa105 ?_); (case qa99 => (repeat (first | (with_reducible exact Below.refl _ _) | (with_reducible assumption) | (with_reducible refine Later.out _ ?_) | (with_reducible refine bel_alloc ?_ _) | (with_reducible refine bel_drew ?_) | (with_reducible refine bel_drewN ?_ _) | (with_reducible refine bel_set ?_ ?_ _) | (with_reducible refine After.out _ ?_ ?_) | (dsimp only; omega) | omega | (simp only [World.size_alloc, World.size_setCell, World.size_drew]; omega)))); (case qa100 => exact own_mono (own_bel hown6.out (by (repeat (first | (with_reducible exact Below.refl _ _) | (with_reducible assumption) | (with_reducible refine Later.out _ ?_) | (with_reducible refine bel_alloc ?_ _) | (with_reducible refine bel_drew ?_) | (with_reducible refine bel_drewN ?_ _) | (with_reducible refine bel_set ?_ ?_ _) | (with_reducible refine After.out _ ?_ ?_) | (dsimp only; omega) | omega | (simp only [World.size_alloc, World.size_setCell, World.size_drew]; omega))))) (by first | exact Nat.le_refl _ | omega | (simp only [World.size_alloc, World.size_drew]; omega))); (case qa101 => (first | rfl | (simp [boolCells]; done) | (simp [intCells]; done) | (simp; done) | (first | omega | (simp only [List.length_append, List.length_cons, List.length_nil]; omega)))); (case qa102 => (first | exact Row.madeAt (by first | rfl | (simp only [World.size_alloc, World.size_drew])) rfl | exact ((Row.madeAt (w := z.w.alloc (.cells #[] 9)) (cs := #[.string s]) (e := 9) (by simp only [World.size_alloc]) rfl).bel ((Below.refl _ _).drew)).btw x6.btw (fun p hp => by cases hp; first | (dsimp only; omega) | (simp only [World.size_alloc, World.size_drew]; omega)) | exact (((Row.madeAt (w := z.w) (cs := #[.string s]) (e := 9) rfl rfl).alloc (.cells #[] 9)).bel ((Below.refl _ _).drew)).btw x6.btw (fun p hp => by cases hp; first | (dsimp only; omega) | (simp only [World.size_alloc, World.size_drew]; omega)))); (case qa103 => exact one_str1 s); (case qa104 => (unfold maxLen; (first | omega | (simp only [List.length_append, List.length_cons, List.length_nil]; omega)))); (case qa105 => (first | omega | (simp only [List.length_append, List.length_cons, List.length_nil]; omega))); intro a7 c7 x7 hown7; replace hown7 := Lib.hid hown7); refine hKP _ _ (LaterC.mk (by (repeat (first | (with_reducible exact Below.refl _ _) | (with_reducible assumption) | (with_reducible refine Later.out _ ?_) | (with_reducible refine bel_alloc ?_ _) | (with_reducible refine bel_drew ?_) | (with_reducible refine bel_drewN ?_ _) | (with_reducible refine bel_set ?_ ?_ _) | (with_reducible refine After.out _ ?_ ?_) | (dsimp only; omega) | omega | (simp only [World.size_alloc, World.size_setCell, World.size_drew]; omega))))) ?_; clear hKP KP); rotate_left; (intro KP hKP; go_wp2_with fail; refine hKP _ _ (LaterC.mk (by (repeat (first | (with_reducible exact Below.refl _ _) | (with_reducible assumption) | (with_reducible refine Later.out _ ?_) | (with_reducible refine bel_alloc ?_ _) | (with_reducible refine bel_drew ?_) | (with_reducible refine bel_drewN ?_ _) | (with_reducible refine bel_set ?_ ?_ _) | (with_reducible refine After.out _ ?_ ?_) | (dsimp only; omega) | omega | (simp only [World.size_alloc, World.size_setCell, World.size_drew]; omega))))) ?_; clear hKP KP); (try simp only [List.filter, bne_self_eq_false, Nat.reduceBNe])) | ((with_reducible apply float_fork); rfl; (first | (with_reducible exact nth0) | (with_reducible exact nth1) | (with_reducible exact nth2) | (with_reducible exact nth3) | (with_reducible exact nth4) | (with_reducible exact nth5) | (with_reducible exact nth6) | (with_reducible exact nth7) | (with_reducible exact nth8) | (with_reducible exact nth9) | (with_reducible exact nth10) | (with_reducible exact nth11) | (with_reducible exact nth12) | (with_reducible exact nth13) | (with_reducible exact nth14) | (with_reducible exact nth15) | (with_reducible exact nth16) | (with_reducible exact nth17) | (with_reducible exact nth18) | (with_reducible exact nth19) | (with_reducible exact nth20) | (with_reducible exact nth21) | (with_reducible exact nth22) | (with_reducible exact nth23)); (first | (with_reducible exact nth0) | (with_reducible exact nth1) | (with_reducible exact nth2) | (with_reducible exact nth3) | (with_reducible exact nth4) | (with_reducible exact nth5) | (with_reducible exact nth6) | (with_reducible exact nth7) | (with_reducible exact nth8) | (with_reducible exact nth9) | (with_reducible exact nth10) | (with_reducible exact nth11) | (with_reducible exact nth12) | (with_reducible exact nth13) | (with_reducible exact nth14) | (with_reducible exact nth15) | (with_reducible exact nth16) | (with_reducible exact nth17) | (with_reducible exact nth18) | (with_reducible exact nth19) | (with_reducible exact nth20) | (with_reducible exact nth21) | (with_reducible exact nth22) | (with_reducible exact nth23)); rfl; rfl; (intro KP hKP; ((refine oper_append_later _ _ _ _ rfl 9 ii _ 1 16 Tryz.underlying37 Jii.out.1 Jii.out.2.1 Jii.out.2.2.1 Jii.out.2.2.2 rfl (by decide) (z.w) ?qa106 _ _ _ (strCells S1 ++ [.string s]) rfl ?qa107 _ _ _ (strCells S2) rfl ?qa108 ?qa109 ?qa110 ?qa111 ?qa112 ?_); (case qa106 => (repeat (first | (with_reducible exact Below.refl _ _) | (with_reducible assumption) | (with_reducible refine Later.out _ ?_) | (with_reducible refine bel_alloc ?_ _) | (with_reducible refine bel_drew ?_) | (with_reducible refine bel_drewN ?_ _) | (with_reducible refine bel_set ?_ ?_ _) | (with_reducible refine After.out _ ?_ ?_) | (dsimp only; omega) | omega | (simp only [World.size_alloc, World.size_setCell, World.size_drew]; omega)))); (case qa107 => exact own_bel hown7.out (by (repeat (first | (with_reducible exact Below.refl _ _) | (with_reducible assumption) | (with_reducible refine Later.out _ ?_) | (with_reducible refine bel_alloc ?_ _) | (with_reducible refine bel_drew ?_) | (with_reducible refine bel_drewN ?_ _) | (with_reducible refine bel_set ?_ ?_ _) | (with_reducible refine After.out _ ?_ ?_) | (dsimp only; omega) | omega | (simp only [World.size_alloc, World.size_setCell, World.size_drew]; omega))))); (case qa108 => (first | rfl | (simp [boolCells]; done) | (simp [intCells]; done) | (simp; done) | (first | omega | (simp only [List.length_append, List.length_cons, List.length_nil]; omega)))); (case qa109 => exact hr2.out _ _); (case qa110 => exact one_str S2); (case qa111 => (unfold maxLen; (first | omega | (simp only [List.length_append, List.length_cons, List.length_nil]; omega)))); (case qa112 => (first | omega | (simp only [List.length_append, List.length_cons, List.length_nil]; omega))); intro a8 c8 x8 hown8; replace hown8 := Lib.hid hown8); refine hKP _ _ (LaterC.mk (by (repeat (first | (with_reducible exact Below.refl _ _) | (with_reducible assumption) | (with_reducible refine Later.out _ ?_) | (with_reducible refine bel_alloc ?_ _) | (with_reducible refine bel_drew ?_) | (with_reducible refine bel_drewN ?_ _) | (with_reducible refine bel_set ?_ ?_ _) | (with_reducible refine After.out _ ?_ ?_) | (dsimp only; omega) | omega | (simp only [World.size_alloc, World.size_setCell, World.size_drew]; omega))))) ?_; clear hKP KP); rotate_left; (intro KP hKP; go_wp2_with fail; refine hKP _ _ (LaterC.mk (by (repeat (first | (with_reducible exact Below.refl _ _) | (with_reducible assumption) | (with_reducible refine Later.out _ ?_) | (with_reducible refine bel_alloc ?_ _) | (with_reducible refine bel_drew ?_) | (with_reducible refine bel_drewN ?_ _) | (with_reducible refine bel_set ?_ ?_ _) | (with_reducible refine After.out _ ?_ ?_) | (dsimp only; omega) | omega | (simp only [World.size_alloc, World.size_setCell, World.size_drew]; omega))))) ?_; clear hKP KP); (try simp only [List.filter, bne_self_eq_false, Nat.reduceBNe])) | ((with_reducible apply float_fork); rfl; (first | (with_reducible exact nth0) | (with_reducible exact nth1) | (with_reducible exact nth2) | (with_reducible exact nth3) | (with_reducible exact nth4) | (with_reducible exact nth5) | (with_reducible exact nth6) | (with_reducible exact nth7) | (with_reducible exact nth8) | (with_reducible exact nth9) | (with_reducible exact nth10) | (with_reducible exact nth11) | (with_reducible exact nth12) | (with_reducible exact nth13) | (with_reducible exact nth14) | (with_reducible exact nth15) | (with_reducible exact nth16) | (with_reducible exact nth17) | (with_reducible exact nth18) | (with_reducible exact nth19) | (with_reducible exact nth20) | (with_reducible exact nth21) | (with_reducible exact nth22) | (with_reducible exact nth23)); (first | (with_reducible exact nth0) | (with_reducible exact nth1) | (with_reducible exact nth2) | (with_reducible exact nth3) | (with_reducible exact nth4) | (with_reducible exact nth5) | (with_reducible exact nth6) | (with_reducible exact nth7) | (with_reducible exact nth8) | (with_reducible exact nth9) | (with_reducible exact nth10) | (with_reducible exact nth11) | (with_reducible exact nth12) | (with_reducible exact nth13) | (with_reducible exact nth14) | (with_reducible exact nth15) | (with_reducible exact nth16) | (with_reducible exact nth17) | (with_reducible exact nth18) | (with_reducible exact nth19) | (with_reducible exact nth20) | (with_reducible exact nth21) | (with_reducible exact nth22) | (with_reducible exact nth23)); rfl; rfl; (intro KP hKP; go_wp2_with fail; refine hKP _ _ (LaterC.mk (by (repeat (first | (with_reducible exact Below.refl _ _) | (with_reducible assumption) | (with_reducible refine Later.out _ ?_) | (with_reducible refine bel_alloc ?_ _) | (with_reducible refine bel_drew ?_) | (with_reducible refine bel_drewN ?_ _) | (with_reducible refine bel_set ?_ ?_ _) | (with_reducible refine After.out _ ?_ ?_) | (dsimp only; omega) | omega | (simp only [World.size_alloc, World.size_setCell, World.size_drew]; omega))))) ?_; clear hKP KP); rotate_left; (intro KP hKP; go_wp2_with fail; refine hKP _ _ (LaterC.mk (by (repeat (first | (with_reducible exact Below.refl _ _) | (with_reducible assumption) | (with_reducible refine Later.out _ ?_) | (with_reducible refine bel_alloc ?_ _) | (with_reducible refine bel_drew ?_) | (with_reducible refine bel_drewN ?_ _) | (with_reducible refine bel_set ?_ ?_ _) | (with_reducible refine After.out _ ?_ ?_) | (dsimp only; omega) | omega | (simp only [World.size_alloc, World.size_setCell, World.size_drew]; omega))))) ?_; clear hKP KP); (try simp only [List.filter, bne_self_eq_false, Nat.reduceBNe])) | ((with_reducible apply float_last); (first | (with_reducible exact nth0) | (with_reducible exact nth1) | (with_reducible exact nth2) | (with_reducible exact nth3) | (with_reducible exact nth4) | (with_reducible exact nth5) | (with_reducible exact nth6) | (with_reducible exact nth7) | (with_reducible exact nth8) | (with_reducible exact nth9) | (with_reducible exact nth10) | (with_reducible exact nth11) | (with_reducible exact nth12) | (with_reducible exact nth13) | (with_reducible exact nth14) | (with_reducible exact nth15) | (with_reducible exact nth16) | (with_reducible exact nth17) | (with_reducible exact nth18) | (with_reducible exact nth19) | (with_reducible exact nth20) | (with_reducible exact nth21) | (with_reducible exact nth22) | (with_reducible exact nth23)); rfl; (intro KP hKP; go_wp2_with fail; refine hKP _ _ (LaterC.mk (by (repeat (first | (with_reducible exact Below.refl _ _) | (with_reducible assumption) | (with_reducible refine Later.out _ ?_) | (with_reducible refine bel_alloc ?_ _) | (with_reducible refine bel_drew ?_) | (with_reducible refine bel_drewN ?_ _) | (with_reducible refine bel_set ?_ ?_ _) | (with_reducible refine After.out _ ?_ ?_) | (dsimp only; omega) | omega | (simp only [World.size_alloc, World.size_setCell, World.size_drew]; omega))))) ?_; clear hKP KP)) | ((with_reducible apply plan_loud); (first | (with_reducible exact nth0) | (with_reducible exact nth1) | (with_reducible exact nth2) | (with_reducible exact nth3) | (with_reducible exact nth4) | (with_reducible exact nth5) | (with_reducible exact nth6) | (with_reducible exact nth7) | (with_reducible exact nth8) | (with_reducible exact nth9) | (with_reducible exact nth10) | (with_reducible exact nth11) | (with_reducible exact nth12) | (with_reducible exact nth13) | (with_reducible exact nth14) | (with_reducible exact nth15) | (with_reducible exact nth16) | (with_reducible exact nth17) | (with_reducible exact nth18) | (with_reducible exact nth19) | (with_reducible exact nth20) | (with_reducible exact nth21) | (with_reducible exact nth22) | (with_reducible exact nth23)); rfl; (intro KP hKP; go_wp2_with fail; refine hKP _ _ (LaterC.mk (by (repeat (first | (with_reducible exact Below.refl _ _) | (with_reducible assumption) | (with_reducible refine Later.out _ ?_) | (with_reducible refine bel_alloc ?_ _) | (with_reducible refine bel_drew ?_) | (with_reducible refine bel_drewN ?_ _) | (with_reducible refine bel_set ?_ ?_ _) | (with_reducible refine After.out _ ?_ ?_) | (dsimp only; omega) | omega | (simp only [World.size_alloc, World.size_setCell, World.size_drew]; omega))))) ?_; clear hKP KP))))
          all_goals (simp only [Act.put, List.setIfInBounds_toArray, List.set_cons_zero, List.set_cons_succ])
          all_goals (refine plan_quiet nth12 rfl ?_; intro KP hKP; go_big_quiet_op; go_big_quiet_on)
          all_goals (refine plan_nil ?_)
          all_goals go_wp2_with fail
          all_goals go_ret
          all_goals exact RetTexts.mk X.out (by rw [cells3]; exact own_mono hown8.out hlz) (by omega) (by simp only [List.length_append, List.length_cons, List.length_nil]; omega) (by (repeat (first | (with_reducible exact Below.refl _ _) | (with_reducible assumption) | (with_reducible refine Later.out _ ?_) | (with_reducible refine bel_alloc ?_ _) | (with_reducible refine bel_drew ?_) | (with_reducible refine bel_drewN ?_ _) | (with_reducible refine bel_set ?_ ?_ _) | (with_reducible refine After.out _ ?_ ?_) | (dsimp only; omega) | omega | (simp only [World.size_alloc, World.size_setCell, World.size_drew]; omega))))
end Go.Proofs.YtcpddgkloeklaaaGreatDoor

/- The sources of claims: both sides. -/
set_option linter.unusedSimpArgs false
set_option linter.unusedVariables false
namespace Go.Proofs.YtcpddgkloeklaaaGreatDoor
open Go.RowKit
def srcs (L : List Clm) : List ByteArray := uniq (L.map (·.src))
theorem srcs_le (L : List Clm) : (srcs L).length ≤ L.length := by
  have := uniq_le (L.map (·.src))
  unfold srcs
  rw [List.length_map] at this
  exact this
def srcTo (L : List Clm) (k : Nat) : List ByteArray := (L.take k).map (·.src)
theorem srcTo_succ {L : List Clm} {k : Nat} (h : k < L.length) : srcTo L (k + 1) = srcTo L k ++ [L[k].src] := by
  unfold srcTo
  rw [List.take_succ_eq_append_getElem h, List.map_append]; rfl
theorem srcTo_len {L : List Clm} {k : Nat} (h : k ≤ L.length) : (srcTo L k).length = k := by
  unfold srcTo
  rw [List.length_map, List.length_take]; omega
theorem srcTo_all (L : List Clm) : srcTo L L.length = L.map (·.src) := by unfold srcTo; rw [List.take_length]
def insTo (L : List Clm) (k : Nat) : List ByteArray := insAll (srcTo L k)
theorem insTo_succ {L : List Clm} {k : Nat} (h : k < L.length) : insTo L (k + 1) = insB L[k].src (insTo L k) := by
  unfold insTo insAll
  rw [srcTo_succ h, List.foldl_append]; rfl
theorem insTo_le {L : List Clm} {k : Nat} (h : k ≤ L.length) : (insTo L k).length ≤ k := by
  unfold insTo
  rw [insAll_uniq]
  have := uniq_le (srcTo L k)
  rw [srcTo_len h] at this
  exact this
theorem insTo_all (L : List Clm) : insTo L L.length = srcs L := by unfold insTo srcs; rw [srcTo_all, insAll_uniq]
section
variable (L : List Clm) (a : Option Addr) (n c : Nat) (w : World) (hn : L.length = n) (hm : n ≤ 900) (hr : Row w a (clmsCells L))
include hn hm hr
set_option maxRecDepth 8000 in
set_option maxHeartbeats 2000000 in
theorem sourcesOf_any : Calls Tryz.prog 72 #[.slice a n c] w (RetOwn w 9 1 (srcs L).length (strCells (srcs L)) id) := by
  subst hn
  obtain ⟨ii, j1, j2, j3, j4⟩ := info_str'
  have Jii := Lib.hid (And.intro j1 (And.intro j2 (And.intro j3 j4)))
  clear j1 j2 j3 j4
  replace hr := Lib.hid hr
  have hA := Lib.hid (srcTo_all L)
  go_enter Tryz.func72, Tryz.ntmps72
  go_wp2_with fail
  go_loopw [3, 8] (fun t i wr => ∃ (k : Nat) (a5 : Option Addr) (c5 : Nat), k ≤ L.length ∧ i = .int .i64 k ∧ t = .slice a5 k c5 ∧ wr.ownsRow w.heap.size 9 1 (.slice a5 k c5) k (strCells (srcTo L k)) ∧ ∃ z : Later w, wr = z.w) (fun _ i _ => L.length - (intOf i).toNat)
  case atStart => exact ⟨0, none, 0, Nat.zero_le _, rfl, rfl, World.ownsRow_nil _ _ _ _, LaterC.mk (by (repeat (first | (with_reducible exact Below.refl _ _) | (with_reducible assumption) | (with_reducible refine Later.out _ ?_) | (with_reducible refine bel_alloc ?_ _) | (with_reducible refine bel_drew ?_) | (with_reducible refine bel_drewN ?_ _) | (with_reducible refine bel_set ?_ ?_ _) | (with_reducible refine After.out _ ?_ ?_) | (dsimp only; omega) | omega | (simp only [World.size_alloc, World.size_setCell, World.size_drew]; omega))))⟩
  case round =>
    obtain ⟨k, a5, c5, hk, rfl, rfl, hown, z, rfl⟩ := hrel
    replace hown := Lib.hid hown
    have hzz := z.bel.size
    by_cases hlt : k < L.length
    · have hi1 : (k : Int) < (L.length : Int) := by omega
      obtain ⟨b, o, rfl, hb, q0, q1, q2, q3, q4, q5, q6⟩ := hr.out.clm hlt
      have X := Lib.hid (srcTo_succ hlt)
      obtain ⟨N, hN⟩ : ∃ N, srcTo L k = N := ⟨_, rfl⟩
      rw [hN] at hown X
      clear hN
      go_wp2_with (at_builtin; (refine wpList_append_later _ rfl _ _ _ rfl 9 ii _ 1 16 Tryz.underlying37 Jii.out.1 Jii.out.2.1 Jii.out.2.2.1 Jii.out.2.2.2 rfl (by decide) (w) ?qa1 _ _ _ (strCells N) rfl ?qa2 _ _ _ ([.string L[k].src]) rfl ?qa3 ?qa4 ?qa5 ?qa6 ?qa7 ?_); (case qa1 => (repeat (first | (with_reducible exact Below.refl _ _) | (with_reducible assumption) | (with_reducible refine Later.out _ ?_) | (with_reducible refine bel_alloc ?_ _) | (with_reducible refine bel_drew ?_) | (with_reducible refine bel_drewN ?_ _) | (with_reducible refine bel_set ?_ ?_ _) | (with_reducible refine After.out _ ?_ ?_) | (dsimp only; omega) | omega | (simp only [World.size_alloc, World.size_setCell, World.size_drew]; omega)))); (case qa2 => exact own_bel hown.out (by (repeat (first | (with_reducible exact Below.refl _ _) | (with_reducible assumption) | (with_reducible refine Later.out _ ?_) | (with_reducible refine bel_alloc ?_ _) | (with_reducible refine bel_drew ?_) | (with_reducible refine bel_drewN ?_ _) | (with_reducible refine bel_set ?_ ?_ _) | (with_reducible refine After.out _ ?_ ?_) | (dsimp only; omega) | omega | (simp only [World.size_alloc, World.size_setCell, World.size_drew]; omega))))); (case qa3 => (first | rfl | (simp [boolCells]; done) | (simp [intCells]; done) | (simp; done) | (first | omega | (simp only [List.length_append, List.length_cons, List.length_nil]; omega)))); (case qa4 => exact Row.madeAt (by simp only [World.size_alloc]; try rfl) rfl); (case qa5 => exact one_str1 _); (case qa6 => (unfold maxLen; (first | omega | (simp only [List.length_append, List.length_cons, List.length_nil]; omega)))); (case qa7 => (first | omega | (simp only [List.length_append, List.length_cons, List.length_nil]; omega))); intro a9 c9 x9 hown9)
      replace hown9 := Lib.hid hown9
      go_roundw
      case rel => exact ⟨k + 1, a9, c9, by omega, by go_num, rfl, by rw [X.out, strCells_snoc]; exact hown9.out, x9, rfl⟩
      case measure => first | (simp [intOf]; done) | (simp [intOf]; omega) | omega
    · obtain rfl : k = L.length := by omega
      have hlen := srcTo_len (Nat.le_refl L.length)
      have CS := fun (lo : Nat) hlo h => sortedStr_any (srcTo L L.length) a5 L.length c5 lo z.w hlen (by omega) hlo h
      rw [hA.out] at CS hown
      have C := Lib.hid (CS w.heap.size hzz ⟨hown.out, fun p hp => by subst hp; exact (hown.out.lt p.block rfl).2⟩)
      clear CS hlen
      go_wp2_with (go_at_call 107; (with_reducible refine C.out.mono ?_); rintro e w' ⟨rfl, hO, hB⟩)
      go_ret
      exact RetOwn.mk _ rfl hO.own (z.bel.trans hB)
set_option maxRecDepth 8000 in
set_option maxHeartbeats 2000000 in
theorem sSources_any : Calls Tryz.prog 71 #[.slice a n c] w (RetOwn w 9 1 (srcs L).length (strCells (srcs L)) id) := by
  subst hn
  replace hr := Lib.hid hr
  have hA := Lib.hid (insTo_all L)
  have hI := Lib.hid (fun A s a c lo (w : World) hm hlo h => sInsert_any A s a A.length c lo w rfl hm hlo h)
  have hL := Lib.hid (fun k hk => insTo_le (L := L) (k := k) hk)
  go_enter Tryz.func71, Tryz.ntmps71
  go_wp2_with fail
  go_loopw [3, 4] (fun t i wr => ∃ (k : Nat) (a5 : Option Addr) (c5 : Nat), k ≤ L.length ∧ i = .int .i64 k ∧ t = .slice a5 (insTo L k).length c5 ∧ Owns wr w.heap.size wr.heap.size 9 1 (insTo L k).length a5 c5 (strCells (insTo L k)) ∧ ∃ z : Later w, wr = z.w) (fun _ i _ => L.length - (intOf i).toNat)
  case atStart => exact ⟨0, _, _, Nat.zero_le _, rfl, rfl, Owns.of (World.ownsRow_lit w #[] 0 (Nat.le_refl _) (by unfold maxLen; omega) rfl), LaterC.mk (by (repeat (first | (with_reducible exact Below.refl _ _) | (with_reducible assumption) | (with_reducible refine Later.out _ ?_) | (with_reducible refine bel_alloc ?_ _) | (with_reducible refine bel_drew ?_) | (with_reducible refine bel_drewN ?_ _) | (with_reducible refine bel_set ?_ ?_ _) | (with_reducible refine After.out _ ?_ ?_) | (dsimp only; omega) | omega | (simp only [World.size_alloc, World.size_setCell, World.size_drew]; omega))))⟩
  case round =>
    obtain ⟨k, a5, c5, hk, rfl, rfl, hown, z, rfl⟩ := hrel
    have hzz := z.bel.size
    by_cases hlt : k < L.length
    · have hi1 : (k : Int) < (L.length : Int) := by omega
      obtain ⟨b, o, rfl, hb, q0, q1, q2, q3, q4, q5, q6⟩ := hr.out.clm hlt
      have X := Lib.hid (insTo_succ hlt)
      have hll := hL.out k hk
      obtain ⟨N, hN⟩ : ∃ N, insTo L k = N := ⟨_, rfl⟩
      rw [hN] at hown X hll
      simp only [hN]
      clear hN
      have C := Lib.hid (hI.out N L[k].src a5 c5 w.heap.size z.w (by omega) hzz hown)
      clear hown
      go_wp2_with (go_at_call 106; (with_reducible refine C.out.mono ?_); rintro e w' ⟨a6, c6, rfl, hO, y6, rfl⟩; have H6 := Lib.hid hO; clear hO)
      go_roundw
      case rel => exact ⟨k + 1, a6, c6, by omega, by go_num, by rw [X.out], by rw [X.out]; exact H6.out, LaterC.mk (by (repeat (first | (with_reducible exact Below.refl _ _) | (with_reducible assumption) | (with_reducible refine Later.out _ ?_) | (with_reducible refine bel_alloc ?_ _) | (with_reducible refine bel_drew ?_) | (with_reducible refine bel_drewN ?_ _) | (with_reducible refine bel_set ?_ ?_ _) | (with_reducible refine After.out _ ?_ ?_) | (dsimp only; omega) | omega | (simp only [World.size_alloc, World.size_setCell, World.size_drew]; omega))))⟩
      case measure => first | (simp [intOf]; done) | (simp [intOf]; omega) | omega
    · obtain rfl : k = L.length := by omega
      rw [hA.out] at hown ⊢
      replace hown := Lib.hid hown
      go_wp2_with fail
      go_ret
      exact RetOwn.mk _ rfl hown.out.own z.bel
end
end Go.Proofs.YtcpddgkloeklaaaGreatDoor

/- SourcesOf, both sides. -/
set_option linter.unusedSimpArgs false
set_option linter.unusedVariables false
namespace Go.Proofs.YtcpddgkloeklaaaGreatDoor
open Go.RowKit
noncomputable def srcR (L : List Clm) (l : List Int) : List ByteArray := if codeZ L l = 0 then srcs (pick L l) else []
theorem srcR_len (L : List Clm) (l : List Int) {n : Nat} (hn : L.length = n) (hm : n ≤ 1048576) : (srcR L l).length ≤ 1048576 := by
  unfold srcR
  split
  · rename_i h
    have h12 := len_of_claims (code_claims h)
    have hll := rises_len (code_rises h)
    have := srcs_le (pick L l); have := pick_le L l; omega
  · simp
section
variable (L : List Clm) (l : List Int) (a : Option Addr) (n c : Nat) (a' : Option Addr) (n' c' : Nat) (w : World) (hn : L.length = n) (hm : n ≤ 1048576) (hn' : l.length = n') (hm' : n' ≤ 1048576) (hr : Row w a (clmsCells L)) (hr' : Row w a' (intCells l)) (ok : ∀ c ∈ L, ClmOk c)
include hn hn' hm hm' hr hr' ok
set_option maxHeartbeats 1000000 in
theorem src_impl (hx : Max w) : Calls Tryz.prog 30 #[.slice a n c, .slice a' n' c'] w (RetOwn w 9 1 (srcR L l).length (strCells (srcR L l)) fun v => .tuple #[v, .int .i64 (codeZ L l)]) := by
  have C1 := chosenCode_any L l a a' n c n' c' w hn hn' hm hm' hr hr' ok hx
  by_cases h : codeZ L l = 0
  · have hcl := code_claims h
    have hri := code_rises h
    have hwi := within_of_rises hri
    have h12 := len_of_claims hcl
    have hll := rises_len hri
    have hpl := pick_le L l
    have C2 := fun w hr hr' => chosen_any L l a a' n c n' c' w hn hn' hm hm' hr hr' hwi
    have C3 := fun a c w hr => sourcesOf_any (pick L l) a (pick L l).length c w rfl (by omega) hr
    rw [show srcR L l = srcs (pick L l) by simp [srcR, h]]
    rw [h] at C1 ⊢
    replace C1 := Lib.hid C1
    replace C2 := Lib.hid C2
    replace C3 := Lib.hid C3
    replace hr := Lib.hid hr
    replace hr' := Lib.hid hr'
    clear ok h hcl hri hwi hx
    go_enter Tryz.func30, Tryz.ntmps30
    go_wp2_with fail
    with_reducible refine (C1.out).mono ?_
    rintro e w' ⟨rfl, y1, rfl⟩
    have hsy1 := y1.bel.size
    (try simp only [World.size_alloc, World.size_setCell, World.size_drew] at hsy1)
    go_wp2_with fail
    with_reducible refine (C2.out _ (hr.out.bel (by (repeat (first | (with_reducible exact Below.refl _ _) | (with_reducible assumption) | (with_reducible refine Later.out _ ?_) | (with_reducible refine bel_alloc ?_ _) | (with_reducible refine bel_drew ?_) | (with_reducible refine bel_drewN ?_ _) | (with_reducible refine bel_set ?_ ?_ _) | (with_reducible refine After.out _ ?_ ?_) | (dsimp only; omega) | omega | (simp only [World.size_alloc, World.size_setCell, World.size_drew]; omega))))) (hr'.out.bel (by (repeat (first | (with_reducible exact Below.refl _ _) | (with_reducible assumption) | (with_reducible refine Later.out _ ?_) | (with_reducible refine bel_alloc ?_ _) | (with_reducible refine bel_drew ?_) | (with_reducible refine bel_drewN ?_ _) | (with_reducible refine bel_set ?_ ?_ _) | (with_reducible refine After.out _ ?_ ?_) | (dsimp only; omega) | omega | (simp only [World.size_alloc, World.size_setCell, World.size_drew]; omega)))))).mono ?_
    rintro e w' ⟨a2, c2, rfl, hown, y2, rfl⟩
    have hsy2 := y2.bel.size
    (try simp only [World.size_alloc, World.size_setCell, World.size_drew] at hsy2)
    have H2 := Lib.hid (Owns.of hown)
    clear hown
    go_wp2_with fail
    with_reducible refine (C3.out _ _ _ H2.out.row).mono ?_
    rintro e w' ⟨a3, c3, rfl, hown, y3, rfl⟩
    have hsy3 := y3.bel.size
    (try simp only [World.size_alloc, World.size_setCell, World.size_drew] at hsy3)
    have H3 := Lib.hid (Owns.of hown)
    clear hown
    go_wp2_with fail
    refine bodyPost_ret (by simp [results, Tryz.results30, go_sem, ↓IntWalk.iteOmega, *]; try rfl) rfl ?_
    refine RetOwn.mk _ rfl (own_mono H3.out.own ?_) ?_
    · ((try simp only [World.size_alloc, World.size_setCell, World.size_drew]); omega)
    · (repeat (first | (with_reducible exact Below.refl _ _) | (with_reducible assumption) | (with_reducible refine Later.out _ ?_) | (with_reducible refine bel_alloc ?_ _) | (with_reducible refine bel_drew ?_) | (with_reducible refine bel_drewN ?_ _) | (with_reducible refine bel_set ?_ ?_ _) | (with_reducible refine After.out _ ?_ ?_) | (dsimp only; omega) | omega | (simp only [World.size_alloc, World.size_setCell, World.size_drew]; omega)))
  · rw [show srcR L l = [] by simp [srcR, h]]
    generalize codeZ L l = k at C1 h
    have hk : (k == 0) = false := by simpa using h
    have hk' : (k != 0) = true := by simpa using h
    replace C1 := Lib.hid C1
    clear ok hr hr' hx
    go_enter Tryz.func30, Tryz.ntmps30
    go_wp2_with fail
    with_reducible refine (C1.out).mono ?_
    rintro e w' ⟨rfl, y1, rfl⟩
    have hsy1 := y1.bel.size
    (try simp only [World.size_alloc, World.size_setCell, World.size_drew] at hsy1)
    go_wp2_with fail
    refine bodyPost_ret (by simp [results, Tryz.results30, go_sem, ↓IntWalk.iteOmega, *]; try rfl) rfl ?_
    refine RetOwn.mk (.slice none 0 0) rfl (World.ownsRow_nil _ _ _ _) ?_
    (repeat (first | (with_reducible exact Below.refl _ _) | (with_reducible assumption) | (with_reducible refine Later.out _ ?_) | (with_reducible refine bel_alloc ?_ _) | (with_reducible refine bel_drew ?_) | (with_reducible refine bel_drewN ?_ _) | (with_reducible refine bel_set ?_ ?_ _) | (with_reducible refine After.out _ ?_ ?_) | (dsimp only; omega) | omega | (simp only [World.size_alloc, World.size_setCell, World.size_drew]; omega)))
set_option maxHeartbeats 1000000 in
theorem src_spec : Calls Tryz.prog 29 #[.slice a n c, .slice a' n' c'] w (RetOwn w 9 1 (srcR L l).length (strCells (srcR L l)) fun v => .tuple #[v, .int .i64 (codeZ L l)]) := by
  have C1 := sCode_any L l a a' n c n' c' w hn hn' hm hm' hr hr' ok
  by_cases h : codeZ L l = 0
  · have hcl := code_claims h
    have hri := code_rises h
    have hwi := within_of_rises hri
    have h12 := len_of_claims hcl
    have hll := rises_len hri
    have hpl := pick_le L l
    have C2 := fun w hr hr' => sChosen_any L l a a' n c n' c' w hn hn' hm hm' hr hr' hwi
    have C3 := fun a c w hr => sSources_any (pick L l) a (pick L l).length c w rfl (by omega) hr
    rw [show srcR L l = srcs (pick L l) by simp [srcR, h]]
    rw [h] at C1 ⊢
    replace C1 := Lib.hid C1
    replace C2 := Lib.hid C2
    replace C3 := Lib.hid C3
    replace hr := Lib.hid hr
    replace hr' := Lib.hid hr'
    clear ok h hcl hri hwi
    go_enter Tryz.func29, Tryz.ntmps29
    go_wp2_with fail
    with_reducible refine (C1.out).mono ?_
    rintro e w' ⟨rfl, y1, rfl⟩
    have hsy1 := y1.bel.size
    (try simp only [World.size_alloc, World.size_setCell, World.size_drew] at hsy1)
    go_wp2_with fail
    with_reducible refine (C2.out _ (hr.out.bel (by (repeat (first | (with_reducible exact Below.refl _ _) | (with_reducible assumption) | (with_reducible refine Later.out _ ?_) | (with_reducible refine bel_alloc ?_ _) | (with_reducible refine bel_drew ?_) | (with_reducible refine bel_drewN ?_ _) | (with_reducible refine bel_set ?_ ?_ _) | (with_reducible refine After.out _ ?_ ?_) | (dsimp only; omega) | omega | (simp only [World.size_alloc, World.size_setCell, World.size_drew]; omega))))) (hr'.out.bel (by (repeat (first | (with_reducible exact Below.refl _ _) | (with_reducible assumption) | (with_reducible refine Later.out _ ?_) | (with_reducible refine bel_alloc ?_ _) | (with_reducible refine bel_drew ?_) | (with_reducible refine bel_drewN ?_ _) | (with_reducible refine bel_set ?_ ?_ _) | (with_reducible refine After.out _ ?_ ?_) | (dsimp only; omega) | omega | (simp only [World.size_alloc, World.size_setCell, World.size_drew]; omega)))))).mono ?_
    rintro e w' ⟨a2, c2, rfl, hown, y2, rfl⟩
    have hsy2 := y2.bel.size
    (try simp only [World.size_alloc, World.size_setCell, World.size_drew] at hsy2)
    have H2 := Lib.hid (Owns.of hown)
    clear hown
    go_wp2_with fail
    with_reducible refine (C3.out _ _ _ H2.out.row).mono ?_
    rintro e w' ⟨a3, c3, rfl, hown, y3, rfl⟩
    have hsy3 := y3.bel.size
    (try simp only [World.size_alloc, World.size_setCell, World.size_drew] at hsy3)
    have H3 := Lib.hid (Owns.of hown)
    clear hown
    go_wp2_with fail
    refine bodyPost_ret (by simp [results, Tryz.results29, go_sem, ↓IntWalk.iteOmega, *]; try rfl) rfl ?_
    refine RetOwn.mk _ rfl (own_mono H3.out.own ?_) ?_
    · ((try simp only [World.size_alloc, World.size_setCell, World.size_drew]); omega)
    · (repeat (first | (with_reducible exact Below.refl _ _) | (with_reducible assumption) | (with_reducible refine Later.out _ ?_) | (with_reducible refine bel_alloc ?_ _) | (with_reducible refine bel_drew ?_) | (with_reducible refine bel_drewN ?_ _) | (with_reducible refine bel_set ?_ ?_ _) | (with_reducible refine After.out _ ?_ ?_) | (dsimp only; omega) | omega | (simp only [World.size_alloc, World.size_setCell, World.size_drew]; omega)))
  · rw [show srcR L l = [] by simp [srcR, h]]
    generalize codeZ L l = k at C1 h
    have hk : (k == 0) = false := by simpa using h
    have hk' : (k != 0) = true := by simpa using h
    replace C1 := Lib.hid C1
    clear ok hr hr'
    go_enter Tryz.func29, Tryz.ntmps29
    go_wp2_with fail
    with_reducible refine (C1.out).mono ?_
    rintro e w' ⟨rfl, y1, rfl⟩
    have hsy1 := y1.bel.size
    (try simp only [World.size_alloc, World.size_setCell, World.size_drew] at hsy1)
    go_wp2_with fail
    refine bodyPost_ret (by simp [results, Tryz.results29, go_sem, ↓IntWalk.iteOmega, *]; try rfl) rfl ?_
    refine RetOwn.mk (.slice none 0 0) rfl (World.ownsRow_nil _ _ _ _) ?_
    (repeat (first | (with_reducible exact Below.refl _ _) | (with_reducible assumption) | (with_reducible refine Later.out _ ?_) | (with_reducible refine bel_alloc ?_ _) | (with_reducible refine bel_drew ?_) | (with_reducible refine bel_drewN ?_ _) | (with_reducible refine bel_set ?_ ?_ _) | (with_reducible refine After.out _ ?_ ?_) | (dsimp only; omega) | omega | (simp only [World.size_alloc, World.size_setCell, World.size_drew]; omega)))
end

end Go.Proofs.YtcpddgkloeklaaaGreatDoor

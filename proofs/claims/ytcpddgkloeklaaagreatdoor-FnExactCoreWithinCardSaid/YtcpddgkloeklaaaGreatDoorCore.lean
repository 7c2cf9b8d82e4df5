import Derived.Test.YtcpddgkloeklaaaGreatDoorLack2
import Derived.Test.YtcpddgkloeklaaaGreatDoorRep
/- Cores: both sides. -/
set_option linter.unusedSimpArgs false
set_option linter.unusedVariables false
namespace Go.Proofs.YtcpddgkloeklaaaGreatDoor
open Go.RowKit
theorem within_erase {n : Nat} {S : List Int} (h : Within n S) (i : Nat) : Within n (S.eraseIdx i) := h.sub fun x hx => List.mem_of_mem_eraseIdx hx
theorem erase_le (S : List Int) (i : Nat) : (S.eraseIdx i).length ≤ S.length := List.length_eraseIdx_le S i
theorem minB_no {G : List Int → Bool} {S : List Int} (h : G S = false) : minB G S = false := by unfold minB; rw [h]; rfl
theorem minB_no2 {G : List Int → Bool} {S : List Int} {i : Nat} (hi : i < S.length) (h : G (S.eraseIdx i) = true) : minB G S = false := by
  rw [Bool.eq_false_iff]
  intro hm
  rw [(minB_iff.1 hm).2 i hi] at h
  cases h
theorem minB_yes {G : List Int → Bool} {S : List Int} (h : G S = true) (ha : ∀ i, i < S.length → G (S.eraseIdx i) = false) : minB G S = true := minB_iff.2 ⟨h, ha⟩
theorem coreG_b {L : List Clm} {S : List Int} {b : Bool} (h : coreG L S = b) : consB (pick L S) = !b := by unfold coreG at h; rw [← h, Bool.not_not]
section
variable (L : List Clm) (S : List Int) (a a' : Option Addr) (n c n' c' : Nat) (w : World) (hn : L.length = n) (hn' : S.length = n') (hm : n ≤ 1048576) (hm' : n' ≤ 1000) (hcap : n' ≤ c') (hr : Row w a (clmsCells L)) (hr' : Row w a' (intCells S)) (hin : Within L.length S)
include hn hn' hm hm' hcap hr hr' hin
set_option maxRecDepth 8000 in
set_option maxHeartbeats 4000000 in
theorem sCore_any (hv : Named L) : Calls Tryz.prog 115 #[.slice a n c, .slice a' n' c'] w (Ret w (.bool (minB (coreG L) S))) := by
  subst hn'
  have CH := Lib.hid (fun (T : List Int) (hT : Within L.length T) (hl : T.length ≤ 1000) a' c' (w : World) hr hr' => sChosen_any L T a a' n c T.length c' w hn rfl hm (by omega) hr hr' hT)
  have CA := Lib.hid (fun (T : List Int) (b : Bool) (hb : coreG L T = b) (hl : T.length ≤ 1000) a c (w : World) hr => sCons_b (L := pick L T) (a := a) (c := c) (w := w) (n := (pick L T).length) (b := !b) rfl (by have := pick_le L T; omega) hr (named_pick hv T) (coreG_b hb))
  have CL := Lib.hid (fun (i : Nat) (hi : i < S.length) (w : World) hr => sWithout_any S i a' S.length c' w rfl hi hm' hcap hr)
  have hle := Lib.hid (erase_le S)
  have hwe := Lib.hid (within_erase hin)
  replace hin := Lib.hid hin
  replace hr := Lib.hid hr
  replace hr' := Lib.hid hr'
  cases hg : coreG L S
  · have X := Lib.hid (minB_no hg)
    replace hg := Lib.hid hg
    go_enter Tryz.func115, Tryz.ntmps115
    go_wp2_with fail
    with_reducible refine (CH.out S hin.out hm' _ _ _ (hr.out.bel (by (repeat (first | (with_reducible exact Below.refl _ _) | (with_reducible assumption) | (with_reducible refine Later.out _ ?_) | (with_reducible refine bel_alloc ?_ _) | (with_reducible refine bel_drew ?_) | (with_reducible refine bel_drewN ?_ _) | (with_reducible refine bel_set ?_ ?_ _) | (with_reducible refine After.out _ ?_ ?_) | (dsimp only; omega) | omega | (simp only [World.size_alloc, World.size_setCell, World.size_drew]; omega))))) (hr'.out.bel (by (repeat (first | (with_reducible exact Below.refl _ _) | (with_reducible assumption) | (with_reducible refine Later.out _ ?_) | (with_reducible refine bel_alloc ?_ _) | (with_reducible refine bel_drew ?_) | (with_reducible refine bel_drewN ?_ _) | (with_reducible refine bel_set ?_ ?_ _) | (with_reducible refine After.out _ ?_ ?_) | (dsimp only; omega) | omega | (simp only [World.size_alloc, World.size_setCell, World.size_drew]; omega)))))).mono ?_
    rintro e w' ⟨a2, c2, rfl, hown, y2, rfl⟩
    have hsy2 := y2.bel.size
    (try simp only [World.size_alloc, World.size_setCell, World.size_drew] at hsy2)
    have H2 := Lib.hid (Owns.of hown)
    clear hown
    go_wp2_with fail
    with_reducible refine (CA.out S _ hg.out hm' _ _ _ H2.out.row).mono ?_
    rintro e w' ⟨rfl, y3, rfl⟩
    have hsy3 := y3.bel.size
    (try simp only [World.size_alloc, World.size_setCell, World.size_drew] at hsy3)
    go_wp2_with fail
    go_ret
    exact .mk (by rw [X.out]; rfl) (by (repeat (first | (with_reducible exact Below.refl _ _) | (with_reducible assumption) | (with_reducible refine Later.out _ ?_) | (with_reducible refine bel_alloc ?_ _) | (with_reducible refine bel_drew ?_) | (with_reducible refine bel_drewN ?_ _) | (with_reducible refine bel_set ?_ ?_ _) | (with_reducible refine After.out _ ?_ ?_) | (dsimp only; omega) | omega | (simp only [World.size_alloc, World.size_setCell, World.size_drew]; omega))))
  · have G := Lib.hid hg
    replace hg := Lib.hid hg
    go_enter Tryz.func115, Tryz.ntmps115
    go_wp2_with fail
    with_reducible refine (CH.out S hin.out hm' _ _ _ (hr.out.bel (by (repeat (first | (with_reducible exact Below.refl _ _) | (with_reducible assumption) | (with_reducible refine Later.out _ ?_) | (with_reducible refine bel_alloc ?_ _) | (with_reducible refine bel_drew ?_) | (with_reducible refine bel_drewN ?_ _) | (with_reducible refine bel_set ?_ ?_ _) | (with_reducible refine After.out _ ?_ ?_) | (dsimp only; omega) | omega | (simp only [World.size_alloc, World.size_setCell, World.size_drew]; omega))))) (hr'.out.bel (by (repeat (first | (with_reducible exact Below.refl _ _) | (with_reducible assumption) | (with_reducible refine Later.out _ ?_) | (with_reducible refine bel_alloc ?_ _) | (with_reducible refine bel_drew ?_) | (with_reducible refine bel_drewN ?_ _) | (with_reducible refine bel_set ?_ ?_ _) | (with_reducible refine After.out _ ?_ ?_) | (dsimp only; omega) | omega | (simp only [World.size_alloc, World.size_setCell, World.size_drew]; omega)))))).mono ?_
    rintro e w' ⟨a2, c2, rfl, hown, y2, rfl⟩
    have hsy2 := y2.bel.size
    (try simp only [World.size_alloc, World.size_setCell, World.size_drew] at hsy2)
    have H2 := Lib.hid (Owns.of hown)
    clear hown
    go_wp2_with fail
    with_reducible refine (CA.out S _ hg.out hm' _ _ _ H2.out.row).mono ?_
    rintro e w' ⟨rfl, y3, rfl⟩
    have hsy3 := y3.bel.size
    (try simp only [World.size_alloc, World.size_setCell, World.size_drew] at hsy3)
    go_wp2_with fail
    go_loopw [5] (fun i wr => ∃ k : Nat, k ≤ S.length ∧ i = .int .i64 k ∧ (∀ j (hj : j < S.length), j < k → coreG L (S.eraseIdx j) = false) ∧ ∃ z : Later w, wr = z.w) (fun i _ => S.length - (intOf i).toNat)
    case atStart => exact ⟨0, Nat.zero_le _, rfl, fun j _ h => absurd h (by omega), LaterC.mk (by (repeat (first | (with_reducible exact Below.refl _ _) | (with_reducible assumption) | (with_reducible refine Later.out _ ?_) | (with_reducible refine bel_alloc ?_ _) | (with_reducible refine bel_drew ?_) | (with_reducible refine bel_drewN ?_ _) | (with_reducible refine bel_set ?_ ?_ _) | (with_reducible refine After.out _ ?_ ?_) | (dsimp only; omega) | omega | (simp only [World.size_alloc, World.size_setCell, World.size_drew]; omega))))⟩
    case round =>
      obtain ⟨k, hk, rfl, hall, z, rfl⟩ := hrel
      replace hall := Lib.hid hall
      have hzz := z.bel.size
      by_cases hlt : k < S.length
      · have hi1 : (k : Int) < (S.length : Int) := by omega
        have hel := hle.out k
        have hel2 : (S.eraseIdx k).length ≤ 1000 := by omega
        cases hv2 : coreG L (S.eraseIdx k)
        · have Y := Lib.hid (show ∀ j (hj : j < S.length), j < k + 1 → coreG L (S.eraseIdx j) = false from fun j hj h1 => by
            rcases Nat.lt_or_ge j k with h2 | h2
            · exact hall.out j hj h2
            · obtain rfl : j = k := by omega
              exact hv2)
          replace hv2 := Lib.hid hv2
          go_wp2_with fail
          with_reducible refine (CL.out k hlt _ (hr'.out.bel (by (repeat (first | (with_reducible exact Below.refl _ _) | (with_reducible assumption) | (with_reducible refine Later.out _ ?_) | (with_reducible refine bel_alloc ?_ _) | (with_reducible refine bel_drew ?_) | (with_reducible refine bel_drewN ?_ _) | (with_reducible refine bel_set ?_ ?_ _) | (with_reducible refine After.out _ ?_ ?_) | (dsimp only; omega) | omega | (simp only [World.size_alloc, World.size_setCell, World.size_drew]; omega)))))).mono ?_
          rintro e w' ⟨a4, c4, rfl, hown, y4, rfl⟩
          have hsy4 := y4.bel.size
          (try simp only [World.size_alloc, World.size_setCell, World.size_drew] at hsy4)
          have H4 := Lib.hid (Owns.of hown)
          clear hown
          go_wp2_with fail
          with_reducible refine (CH.out _ (hwe.out k) hel2 _ _ _ (hr.out.bel (by (repeat (first | (with_reducible exact Below.refl _ _) | (with_reducible assumption) | (with_reducible refine Later.out _ ?_) | (with_reducible refine bel_alloc ?_ _) | (with_reducible refine bel_drew ?_) | (with_reducible refine bel_drewN ?_ _) | (with_reducible refine bel_set ?_ ?_ _) | (with_reducible refine After.out _ ?_ ?_) | (dsimp only; omega) | omega | (simp only [World.size_alloc, World.size_setCell, World.size_drew]; omega))))) H4.out.row).mono ?_
          rintro e w' ⟨a5, c5, rfl, hown, y5, rfl⟩
          have hsy5 := y5.bel.size
          (try simp only [World.size_alloc, World.size_setCell, World.size_drew] at hsy5)
          have H5 := Lib.hid (Owns.of hown)
          clear hown
          go_wp2_with fail
          with_reducible refine (CA.out _ _ hv2.out hel2 _ _ _ H5.out.row).mono ?_
          rintro e w' ⟨rfl, y6, rfl⟩
          have hsy6 := y6.bel.size
          (try simp only [World.size_alloc, World.size_setCell, World.size_drew] at hsy6)
          go_wp2_with fail
          go_roundw
          case rel => exact ⟨k + 1, by omega, by go_num, Y.out, LaterC.mk (by (repeat (first | (with_reducible exact Below.refl _ _) | (with_reducible assumption) | (with_reducible refine Later.out _ ?_) | (with_reducible refine bel_alloc ?_ _) | (with_reducible refine bel_drew ?_) | (with_reducible refine bel_drewN ?_ _) | (with_reducible refine bel_set ?_ ?_ _) | (with_reducible refine After.out _ ?_ ?_) | (dsimp only; omega) | omega | (simp only [World.size_alloc, World.size_setCell, World.size_drew]; omega))))⟩
          case measure => first | (simp [intOf]; done) | (simp [intOf]; omega) | omega
        · have Y := Lib.hid (minB_no2 hlt hv2)
          replace hv2 := Lib.hid hv2
          go_wp2_with fail
          with_reducible refine (CL.out k hlt _ (hr'.out.bel (by (repeat (first | (with_reducible exact Below.refl _ _) | (with_reducible assumption) | (with_reducible refine Later.out _ ?_) | (with_reducible refine bel_alloc ?_ _) | (with_reducible refine bel_drew ?_) | (with_reducible refine bel_drewN ?_ _) | (with_reducible refine bel_set ?_ ?_ _) | (with_reducible refine After.out _ ?_ ?_) | (dsimp only; omega) | omega | (simp only [World.size_alloc, World.size_setCell, World.size_drew]; omega)))))).mono ?_
          rintro e w' ⟨a4, c4, rfl, hown, y4, rfl⟩
          have hsy4 := y4.bel.size
          (try simp only [World.size_alloc, World.size_setCell, World.size_drew] at hsy4)
          have H4 := Lib.hid (Owns.of hown)
          clear hown
          go_wp2_with fail
          with_reducible refine (CH.out _ (hwe.out k) hel2 _ _ _ (hr.out.bel (by (repeat (first | (with_reducible exact Below.refl _ _) | (with_reducible assumption) | (with_reducible refine Later.out _ ?_) | (with_reducible refine bel_alloc ?_ _) | (with_reducible refine bel_drew ?_) | (with_reducible refine bel_drewN ?_ _) | (with_reducible refine bel_set ?_ ?_ _) | (with_reducible refine After.out _ ?_ ?_) | (dsimp only; omega) | omega | (simp only [World.size_alloc, World.size_setCell, World.size_drew]; omega))))) H4.out.row).mono ?_
          rintro e w' ⟨a5, c5, rfl, hown, y5, rfl⟩
          have hsy5 := y5.bel.size
          (try simp only [World.size_alloc, World.size_setCell, World.size_drew] at hsy5)
          have H5 := Lib.hid (Owns.of hown)
          clear hown
          go_wp2_with fail
          with_reducible refine (CA.out _ _ hv2.out hel2 _ _ _ H5.out.row).mono ?_
          rintro e w' ⟨rfl, y6, rfl⟩
          have hsy6 := y6.bel.size
          (try simp only [World.size_alloc, World.size_setCell, World.size_drew] at hsy6)
          go_wp2_with fail
          go_ret
          exact .mk (by rw [Y.out]; rfl) (by (repeat (first | (with_reducible exact Below.refl _ _) | (with_reducible assumption) | (with_reducible refine Later.out _ ?_) | (with_reducible refine bel_alloc ?_ _) | (with_reducible refine bel_drew ?_) | (with_reducible refine bel_drewN ?_ _) | (with_reducible refine bel_set ?_ ?_ _) | (with_reducible refine After.out _ ?_ ?_) | (dsimp only; omega) | omega | (simp only [World.size_alloc, World.size_setCell, World.size_drew]; omega))))
      · obtain rfl : k = S.length := by omega
        have Y := Lib.hid (minB_yes G.out fun i hi => hall.out i hi hi)
        go_wp2_with fail
        go_ret
        exact .mk (by rw [Y.out]; rfl) (by (repeat (first | (with_reducible exact Below.refl _ _) | (with_reducible assumption) | (with_reducible refine Later.out _ ?_) | (with_reducible refine bel_alloc ?_ _) | (with_reducible refine bel_drew ?_) | (with_reducible refine bel_drewN ?_ _) | (with_reducible refine bel_set ?_ ?_ _) | (with_reducible refine After.out _ ?_ ?_) | (dsimp only; omega) | omega | (simp only [World.size_alloc, World.size_setCell, World.size_drew]; omega))))
end
end Go.Proofs.YtcpddgkloeklaaaGreatDoor

import Derived.Test.YtfjlilpebhiogaaGreatDoorMskD
import Derived.Test.YtfjlilpebhiogaaGreatDoorLikeM
import Derived.Test.YtfjlilpebhiogaaGreatDoorLawRdM
/- The law MaskTexts: a mask is recovered from its text. -/
set_option linter.unusedSimpArgs false
set_option linter.unusedVariables false
namespace Go.Proofs.YtfjlilpebhiogaaGreatDoor
open Go.RowKit
theorem RdM.code_or {s : ByteArray} {X Y W H code : Int} {L : List Bool} (h : RdM s X Y W H code L) : code = 0 ∨ code = 6 := by
  rcases h with ⟨Wn, Hn, -, -, h, -⟩ | ⟨-, -, -, -, -, h, -⟩
  · exact .inl h
  · exact .inr h
theorem RdM.ok {s : ByteArray} {X Y W H code : Int} {L : List Bool} (h : RdM s X Y W H code L) (h0 : code = 0) : mtR X Y W H L = s ∧ mtK X Y W H L.length = 0 := by
  rcases h with ⟨Wn, Hn, rfl, rfl, -, hm⟩ | ⟨-, -, -, -, -, h, -⟩
  · exact ⟨by simp [mtR, hm.1, hm.2], by simp [mtK, hm.1]⟩
  · omega
set_option maxRecDepth 8000 in
set_option maxHeartbeats 8000000 in
theorem lawMskTx_any (a : Option Addr) (n c : Nat) (bs : List Int) (w : World) (hr : Row w a (byteCells bs)) (hl : bs.length = n) (hm : n ≤ maxLen) (hx : ∀ x ∈ bs, 0 ≤ x ∧ x ≤ 255) (hE : Env w) :
    Calls Tryz.prog 4 #[.slice a n c] w (Ret w (.bool true)) := by
  by_cases hbig : 4096 < n
  · clear hr hl hx hE
    go_enter Tryz.func4, Tryz.ntmps4
    go_wp2_with fail
    with_reducible refine (big_yes _ _ _ _ hbig hm).mono ?_
    rintro e w' ⟨rfl, y0, rfl⟩
    have hsy0 := y0.bel.size
    (try simp only [World.size_alloc, World.size_setCell, World.size_drew] at hsy0)
    go_wp2_with fail
    go_ret
    refine .mk rfl ?_
    (repeat (first | (with_reducible exact Below.refl _ _) | (with_reducible assumption) | (with_reducible refine Later.out _ ?_) | (with_reducible refine bel_alloc ?_ _) | (with_reducible refine bel_drew ?_) | (with_reducible refine bel_drewN ?_ _) | (with_reducible refine bel_set ?_ ?_ _) | (with_reducible refine After.out _ ?_ ?_) | (dsimp only; omega) | omega | (simp only [World.size_alloc, World.size_setCell, World.size_drew]; omega)))
  have hn4 : n ≤ 4096 := by omega
  replace hr := Lib.hid hr
  replace hx := Lib.hid hx
  replace hl := Lib.hid hl
  replace hE := Lib.hid hE
  clear hbig hm
  go_enter Tryz.func4, Tryz.ntmps4
  go_wp2_with fail
  with_reducible refine (big_no _ _ _ _ hn4).mono ?_
  rintro e w' ⟨rfl, y0, rfl⟩
  have hsy0 := y0.bel.size
  (try simp only [World.size_alloc, World.size_setCell, World.size_drew] at hsy0)
  go_wp2_with fail
  with_reducible refine (drawMaskText_any a n c bs _ (hr.out.bel (by (repeat (first | (with_reducible exact Below.refl _ _) | (with_reducible assumption) | (with_reducible refine Later.out _ ?_) | (with_reducible refine bel_alloc ?_ _) | (with_reducible refine bel_drew ?_) | (with_reducible refine bel_drewN ?_ _) | (with_reducible refine bel_set ?_ ?_ _) | (with_reducible refine After.out _ ?_ ?_) | (dsimp only; omega) | omega | (simp only [World.size_alloc, World.size_setCell, World.size_drew]; omega))))) hl.out hn4 hx.out).mono ?_
  rintro e w' ⟨mx, my, mW, mH, a1, n1, c1, l1, hl1, hm1, rfl, z1, rfl, ho1⟩
  have hsz1 := z1.bel.size
  (try simp only [World.size_alloc, World.size_setCell, World.size_drew] at hsz1)
  have hcap := own_cap ho1.own
  have hr1 := Lib.hid ho1.row
  have CI := fun w hr hT => mt_impl mx my mW mH l1 a1 n1 c1 w hl1 hcap hr hT
  have CS := fun w hr => mt_spec mx my mW mH l1 a1 n1 c1 w hl1 hr
  have CB := fun w => isMask_any mx my mW mH a1 n1 c1 w
  have hTs := mtR_size mx my mW mH l1
  have hTy : isMaskB mx my mW mH n1 = true → ∃ Wn Hn : Nat, mW = Wn ∧ mH = Hn ∧ MT (mtR mx my mW mH l1) mx my Wn Hn l1 ∧ mtK mx my mW mH n1 = 0 := fun h => by
    obtain ⟨Wn, Hn, rfl, rfl, -⟩ := mask_nat h
    exact ⟨Wn, Hn, rfl, rfl, ⟨by rw [hl1]; exact h, by simp [mtR, hl1, h]⟩, by simp [mtK, h]⟩
  have hTn : isMaskB mx my mW mH n1 = false → mtK mx my mW mH n1 = 1 := fun h => by simp [mtK, h]
  obtain ⟨T, hT⟩ : ∃ T, mtR mx my mW mH l1 = T := ⟨_, rfl⟩
  obtain ⟨K, hK⟩ : ∃ K, mtK mx my mW mH n1 = K := ⟨_, rfl⟩
  obtain ⟨B, hB⟩ : ∃ B, isMaskB mx my mW mH n1 = B := ⟨_, rfl⟩
  simp only [hT, hK, hB] at CI CS CB hTy hTn hTs
  replace CI := Lib.hid CI
  replace CS := Lib.hid CS
  replace CB := Lib.hid CB
  replace hTy := Lib.hid hTy
  replace hTn := Lib.hid hTn
  clear hT hK hB ho1 hcap
  go_wp2_with fail
  with_reducible refine (CI.out _ (hr1.out.bel (by (repeat (first | (with_reducible exact Below.refl _ _) | (with_reducible assumption) | (with_reducible refine Later.out _ ?_) | (with_reducible refine bel_alloc ?_ _) | (with_reducible refine bel_drew ?_) | (with_reducible refine bel_drewN ?_ _) | (with_reducible refine bel_set ?_ ?_ _) | (with_reducible refine After.out _ ?_ ?_) | (dsimp only; omega) | omega | (simp only [World.size_alloc, World.size_setCell, World.size_drew]; omega))))) (hE.out.tab.bel (by (repeat (first | (with_reducible exact Below.refl _ _) | (with_reducible assumption) | (with_reducible refine Later.out _ ?_) | (with_reducible refine bel_alloc ?_ _) | (with_reducible refine bel_drew ?_) | (with_reducible refine bel_drewN ?_ _) | (with_reducible refine bel_set ?_ ?_ _) | (with_reducible refine After.out _ ?_ ?_) | (dsimp only; omega) | omega | (simp only [World.size_alloc, World.size_setCell, World.size_drew]; omega)))))).mono ?_
  rintro e w' ⟨rfl, y1, rfl⟩
  have hsy1 := y1.bel.size
  (try simp only [World.size_alloc, World.size_setCell, World.size_drew] at hsy1)
  go_wp2_with fail
  with_reducible refine (CS.out _ (hr1.out.bel (by (repeat (first | (with_reducible exact Below.refl _ _) | (with_reducible assumption) | (with_reducible refine Later.out _ ?_) | (with_reducible refine bel_alloc ?_ _) | (with_reducible refine bel_drew ?_) | (with_reducible refine bel_drewN ?_ _) | (with_reducible refine bel_set ?_ ?_ _) | (with_reducible refine After.out _ ?_ ?_) | (dsimp only; omega) | omega | (simp only [World.size_alloc, World.size_setCell, World.size_drew]; omega)))))).mono ?_
  rintro e w' ⟨rfl, y2, rfl⟩
  have hsy2 := y2.bel.size
  (try simp only [World.size_alloc, World.size_setCell, World.size_drew] at hsy2)
  go_wp2_with fail
  with_reducible refine (drawReadMask_any a n c bs _ (hr.out.bel (by (repeat (first | (with_reducible exact Below.refl _ _) | (with_reducible assumption) | (with_reducible refine Later.out _ ?_) | (with_reducible refine bel_alloc ?_ _) | (with_reducible refine bel_drew ?_) | (with_reducible refine bel_drewN ?_ _) | (with_reducible refine bel_set ?_ ?_ _) | (with_reducible refine After.out _ ?_ ?_) | (dsimp only; omega) | omega | (simp only [World.size_alloc, World.size_setCell, World.size_drew]; omega))))) hl.out hn4 hx.out).mono ?_
  rintro e w' ⟨s, hs, rfl, z2, rfl⟩
  have hsz2 := z2.bel.size
  (try simp only [World.size_alloc, World.size_setCell, World.size_drew] at hsz2)
  obtain ⟨X, Y, W, H, code, L, hR⟩ := rdM_ex s
  have hL := hR.len
  have RI := Lib.hid (fun w hE => readMask_impl s w (by omega) hE X Y W H code L hR)
  have RS := Lib.hid (fun w => sReadMask_any s w (by omega) X Y W H code L hR)
  have hR0 := Lib.hid (fun h => hR.ok h)
  have hJ := hR.code_or
  clear hR hs
  go_wp2_with fail
  with_reducible refine (RI.out _ (hE.out.bel (by (repeat (first | (with_reducible exact Below.refl _ _) | (with_reducible assumption) | (with_reducible refine Later.out _ ?_) | (with_reducible refine bel_alloc ?_ _) | (with_reducible refine bel_drew ?_) | (with_reducible refine bel_drewN ?_ _) | (with_reducible refine bel_set ?_ ?_ _) | (with_reducible refine After.out _ ?_ ?_) | (dsimp only; omega) | omega | (simp only [World.size_alloc, World.size_setCell, World.size_drew]; omega)))))).mono ?_
  rintro e w' ⟨a3, c3, rfl, hown, y3, rfl⟩
  have hsy3 := y3.bel.size
  (try simp only [World.size_alloc, World.size_setCell, World.size_drew] at hsy3)
  have O3 := Lib.hid (Owns.of hown)
  clear hown
  have hcap3 := own_cap O3.out.own
  go_wp2_with fail
  with_reducible refine (RS.out _).mono ?_
  rintro e w' ⟨a4, c4, rfl, hown, y4, rfl⟩
  have hsy4 := y4.bel.size
  (try simp only [World.size_alloc, World.size_setCell, World.size_drew] at hsy4)
  have O4 := Lib.hid (Owns.of hown)
  clear hown
  go_wp2_with fail
  with_reducible refine (likeMask_same X Y W H L _ _ _ _ _ _ _ rfl rfl hL (O3.out.row.bel (by (repeat (first | (with_reducible exact Below.refl _ _) | (with_reducible assumption) | (with_reducible refine Later.out _ ?_) | (with_reducible refine bel_alloc ?_ _) | (with_reducible refine bel_drew ?_) | (with_reducible refine bel_drewN ?_ _) | (with_reducible refine bel_set ?_ ?_ _) | (with_reducible refine After.out _ ?_ ?_) | (dsimp only; omega) | omega | (simp only [World.size_alloc, World.size_setCell, World.size_drew]; omega))))) (O4.out.row.bel (by (repeat (first | (with_reducible exact Below.refl _ _) | (with_reducible assumption) | (with_reducible refine Later.out _ ?_) | (with_reducible refine bel_alloc ?_ _) | (with_reducible refine bel_drew ?_) | (with_reducible refine bel_drewN ?_ _) | (with_reducible refine bel_set ?_ ?_ _) | (with_reducible refine After.out _ ?_ ?_) | (dsimp only; omega) | omega | (simp only [World.size_alloc, World.size_setCell, World.size_drew]; omega)))))).mono ?_
  rintro e w' ⟨rfl, y5, rfl⟩
  have hsy5 := y5.bel.size
  (try simp only [World.size_alloc, World.size_setCell, World.size_drew] at hsy5)
  have RA := Lib.hid (fun w hr hT => mt_impl X Y W H L a3 L.length c3 w rfl hcap3 hr hT)
  cases B
  · obtain rfl := hTn.out rfl
    rcases hJ with rfl | rfl
    · obtain ⟨e1, e2⟩ := hR0.out rfl
      have RA' := RA.out
      rw [e1, e2] at RA'
      replace RA' := Lib.hid RA'
      clear e1 e2
      go_wp2_with fail
      with_reducible refine (CB.out _).mono ?_
      rintro e w' ⟨rfl, y6, rfl⟩
      have hsy6 := y6.bel.size
      (try simp only [World.size_alloc, World.size_setCell, World.size_drew] at hsy6)
      go_wp2_with fail
      with_reducible refine (RA'.out _ (O3.out.row.bel (by (repeat (first | (with_reducible exact Below.refl _ _) | (with_reducible assumption) | (with_reducible refine Later.out _ ?_) | (with_reducible refine bel_alloc ?_ _) | (with_reducible refine bel_drew ?_) | (with_reducible refine bel_drewN ?_ _) | (with_reducible refine bel_set ?_ ?_ _) | (with_reducible refine After.out _ ?_ ?_) | (dsimp only; omega) | omega | (simp only [World.size_alloc, World.size_setCell, World.size_drew]; omega))))) (hE.out.tab.bel (by (repeat (first | (with_reducible exact Below.refl _ _) | (with_reducible assumption) | (with_reducible refine Later.out _ ?_) | (with_reducible refine bel_alloc ?_ _) | (with_reducible refine bel_drew ?_) | (with_reducible refine bel_drewN ?_ _) | (with_reducible refine bel_set ?_ ?_ _) | (with_reducible refine After.out _ ?_ ?_) | (dsimp only; omega) | omega | (simp only [World.size_alloc, World.size_setCell, World.size_drew]; omega)))))).mono ?_
      rintro e w' ⟨rfl, y7, rfl⟩
      have hsy7 := y7.bel.size
      (try simp only [World.size_alloc, World.size_setCell, World.size_drew] at hsy7)
      go_wp2_with fail
      go_ret
      exact .mk rfl (by (repeat (first | (with_reducible exact Below.refl _ _) | (with_reducible assumption) | (with_reducible refine Later.out _ ?_) | (with_reducible refine bel_alloc ?_ _) | (with_reducible refine bel_drew ?_) | (with_reducible refine bel_drewN ?_ _) | (with_reducible refine bel_set ?_ ?_ _) | (with_reducible refine After.out _ ?_ ?_) | (dsimp only; omega) | omega | (simp only [World.size_alloc, World.size_setCell, World.size_drew]; omega))))
    · skip
      go_wp2_with fail
      with_reducible refine (CB.out _).mono ?_
      rintro e w' ⟨rfl, y6, rfl⟩
      have hsy6 := y6.bel.size
      (try simp only [World.size_alloc, World.size_setCell, World.size_drew] at hsy6)
      go_wp2_with fail
      go_ret
      exact .mk rfl (by (repeat (first | (with_reducible exact Below.refl _ _) | (with_reducible assumption) | (with_reducible refine Later.out _ ?_) | (with_reducible refine bel_alloc ?_ _) | (with_reducible refine bel_drew ?_) | (with_reducible refine bel_drewN ?_ _) | (with_reducible refine bel_set ?_ ?_ _) | (with_reducible refine After.out _ ?_ ?_) | (dsimp only; omega) | omega | (simp only [World.size_alloc, World.size_setCell, World.size_drew]; omega))))
  · obtain ⟨Wn, Hn, rfl, rfl, hMT, rfl⟩ := hTy.out rfl
    have RB := fun w hE => readMask_impl T w (by omega) hE mx my Wn Hn 0 l1 (.inl ⟨Wn, Hn, rfl, rfl, rfl, hMT⟩)
    replace RB := Lib.hid RB
    clear hMT
    rcases hJ with rfl | rfl
    · obtain ⟨e1, e2⟩ := hR0.out rfl
      have RA' := RA.out
      rw [e1, e2] at RA'
      replace RA' := Lib.hid RA'
      clear e1 e2
      go_wp2_with fail
      with_reducible refine (CB.out _).mono ?_
      rintro e w' ⟨rfl, y6, rfl⟩
      have hsy6 := y6.bel.size
      (try simp only [World.size_alloc, World.size_setCell, World.size_drew] at hsy6)
      go_wp2_with fail
      with_reducible refine (RA'.out _ (O3.out.row.bel (by (repeat (first | (with_reducible exact Below.refl _ _) | (with_reducible assumption) | (with_reducible refine Later.out _ ?_) | (with_reducible refine bel_alloc ?_ _) | (with_reducible refine bel_drew ?_) | (with_reducible refine bel_drewN ?_ _) | (with_reducible refine bel_set ?_ ?_ _) | (with_reducible refine After.out _ ?_ ?_) | (dsimp only; omega) | omega | (simp only [World.size_alloc, World.size_setCell, World.size_drew]; omega))))) (hE.out.tab.bel (by (repeat (first | (with_reducible exact Below.refl _ _) | (with_reducible assumption) | (with_reducible refine Later.out _ ?_) | (with_reducible refine bel_alloc ?_ _) | (with_reducible refine bel_drew ?_) | (with_reducible refine bel_drewN ?_ _) | (with_reducible refine bel_set ?_ ?_ _) | (with_reducible refine After.out _ ?_ ?_) | (dsimp only; omega) | omega | (simp only [World.size_alloc, World.size_setCell, World.size_drew]; omega)))))).mono ?_
      rintro e w' ⟨rfl, y7, rfl⟩
      have hsy7 := y7.bel.size
      (try simp only [World.size_alloc, World.size_setCell, World.size_drew] at hsy7)
      go_wp2_with fail
      with_reducible refine (RB.out _ (hE.out.bel (by (repeat (first | (with_reducible exact Below.refl _ _) | (with_reducible assumption) | (with_reducible refine Later.out _ ?_) | (with_reducible refine bel_alloc ?_ _) | (with_reducible refine bel_drew ?_) | (with_reducible refine bel_drewN ?_ _) | (with_reducible refine bel_set ?_ ?_ _) | (with_reducible refine After.out _ ?_ ?_) | (dsimp only; omega) | omega | (simp only [World.size_alloc, World.size_setCell, World.size_drew]; omega)))))).mono ?_
      rintro e w' ⟨a8, c8, rfl, hown, y8, rfl⟩
      have hsy8 := y8.bel.size
      (try simp only [World.size_alloc, World.size_setCell, World.size_drew] at hsy8)
      have O8 := Lib.hid (Owns.of hown)
      clear hown
      go_wp2_with fail
      with_reducible refine (likeMask_same mx my Wn Hn l1 _ _ _ _ _ _ (y8.w.alloc (.cells #[.int .i64 mx, .int .i64 my, .int .i64 Wn, .int .i64 Hn, .slice a8 n1 c8] 39)) hl1 hl1 (by omega) (O8.out.row.bel (by (repeat (first | (with_reducible exact Below.refl _ _) | (with_reducible assumption) | (with_reducible refine Later.out _ ?_) | (with_reducible refine bel_alloc ?_ _) | (with_reducible refine bel_drew ?_) | (with_reducible refine bel_drewN ?_ _) | (with_reducible refine bel_set ?_ ?_ _) | (with_reducible refine After.out _ ?_ ?_) | (dsimp only; omega) | omega | (simp only [World.size_alloc, World.size_setCell, World.size_drew]; omega))))) (hr1.out.bel (by (repeat (first | (with_reducible exact Below.refl _ _) | (with_reducible assumption) | (with_reducible refine Later.out _ ?_) | (with_reducible refine bel_alloc ?_ _) | (with_reducible refine bel_drew ?_) | (with_reducible refine bel_drewN ?_ _) | (with_reducible refine bel_set ?_ ?_ _) | (with_reducible refine After.out _ ?_ ?_) | (dsimp only; omega) | omega | (simp only [World.size_alloc, World.size_setCell, World.size_drew]; omega)))))).mono ?_
      rintro e w' ⟨rfl, y9, rfl⟩
      have hsy9 := y9.bel.size
      (try simp only [World.size_alloc, World.size_setCell, World.size_drew] at hsy9)
      go_wp2_with fail
      go_ret
      exact .mk rfl (by (repeat (first | (with_reducible exact Below.refl _ _) | (with_reducible assumption) | (with_reducible refine Later.out _ ?_) | (with_reducible refine bel_alloc ?_ _) | (with_reducible refine bel_drew ?_) | (with_reducible refine bel_drewN ?_ _) | (with_reducible refine bel_set ?_ ?_ _) | (with_reducible refine After.out _ ?_ ?_) | (dsimp only; omega) | omega | (simp only [World.size_alloc, World.size_setCell, World.size_drew]; omega))))
    · skip
      go_wp2_with fail
      with_reducible refine (CB.out _).mono ?_
      rintro e w' ⟨rfl, y6, rfl⟩
      have hsy6 := y6.bel.size
      (try simp only [World.size_alloc, World.size_setCell, World.size_drew] at hsy6)
      go_wp2_with fail
      with_reducible refine (RB.out _ (hE.out.bel (by (repeat (first | (with_reducible exact Below.refl _ _) | (with_reducible assumption) | (with_reducible refine Later.out _ ?_) | (with_reducible refine bel_alloc ?_ _) | (with_reducible refine bel_drew ?_) | (with_reducible refine bel_drewN ?_ _) | (with_reducible refine bel_set ?_ ?_ _) | (with_reducible refine After.out _ ?_ ?_) | (dsimp only; omega) | omega | (simp only [World.size_alloc, World.size_setCell, World.size_drew]; omega)))))).mono ?_
      rintro e w' ⟨a8, c8, rfl, hown, y8, rfl⟩
      have hsy8 := y8.bel.size
      (try simp only [World.size_alloc, World.size_setCell, World.size_drew] at hsy8)
      have O8 := Lib.hid (Owns.of hown)
      clear hown
      go_wp2_with fail
      with_reducible refine (likeMask_same mx my Wn Hn l1 _ _ _ _ _ _ (y8.w.alloc (.cells #[.int .i64 mx, .int .i64 my, .int .i64 Wn, .int .i64 Hn, .slice a8 n1 c8] 39)) hl1 hl1 (by omega) (O8.out.row.bel (by (repeat (first | (with_reducible exact Below.refl _ _) | (with_reducible assumption) | (with_reducible refine Later.out _ ?_) | (with_reducible refine bel_alloc ?_ _) | (with_reducible refine bel_drew ?_) | (with_reducible refine bel_drewN ?_ _) | (with_reducible refine bel_set ?_ ?_ _) | (with_reducible refine After.out _ ?_ ?_) | (dsimp only; omega) | omega | (simp only [World.size_alloc, World.size_setCell, World.size_drew]; omega))))) (hr1.out.bel (by (repeat (first | (with_reducible exact Below.refl _ _) | (with_reducible assumption) | (with_reducible refine Later.out _ ?_) | (with_reducible refine bel_alloc ?_ _) | (with_reducible refine bel_drew ?_) | (with_reducible refine bel_drewN ?_ _) | (with_reducible refine bel_set ?_ ?_ _) | (with_reducible refine After.out _ ?_ ?_) | (dsimp only; omega) | omega | (simp only [World.size_alloc, World.size_setCell, World.size_drew]; omega)))))).mono ?_
      rintro e w' ⟨rfl, y9, rfl⟩
      have hsy9 := y9.bel.size
      (try simp only [World.size_alloc, World.size_setCell, World.size_drew] at hsy9)
      go_wp2_with fail
      go_ret
      exact .mk rfl (by (repeat (first | (with_reducible exact Below.refl _ _) | (with_reducible assumption) | (with_reducible refine Later.out _ ?_) | (with_reducible refine bel_alloc ?_ _) | (with_reducible refine bel_drew ?_) | (with_reducible refine bel_drewN ?_ _) | (with_reducible refine bel_set ?_ ?_ _) | (with_reducible refine After.out _ ?_ ?_) | (dsimp only; omega) | omega | (simp only [World.size_alloc, World.size_setCell, World.size_drew]; omega))))
end Go.Proofs.YtfjlilpebhiogaaGreatDoor

import Derived.Test.YtokbolgaokbdcaaDoorPrsL
import Derived.Test.YtokbolgaokbdcaaDoorDrV
import Derived.Test.YtokbolgaokbdcaaDoorPackPe
/- The law on parsings: a text that is told as ambiguous has two, and an unambiguous table has none. -/
set_option linter.unusedSimpArgs false
set_option linter.unusedVariables false
namespace Go.Proofs.YtokbolgaokbdcaaDoor
open Go.RowKit
set_option maxRecDepth 8000 in
set_option maxHeartbeats 16000000 in
theorem lawParsings_any (a : Option Addr) (n c : Nat) (bs : List Int) (w : World) (hr : Row w a (byteCells bs)) (hl : bs.length = n) (hm : n ≤ maxLen) (hx : ∀ x ∈ bs, 0 ≤ x ∧ x ≤ 255) :
    Calls Tryd.prog 7 #[.slice a n c] w (Ret w (.bool true)) := by
  by_cases hbig : 4096 < n
  · clear hr hl hx
    go_enter Tryd.func7, Tryd.ntmps7
    go_wp2_with fail
    with_reducible refine (big_yes _ _ _ _ hbig hm).mono ?_
    rintro e w' ⟨rfl, y0, rfl⟩
    have hsy0 := y0.bel.size
    (try simp only [World.size_alloc, World.size_setCell, World.size_drew] at hsy0)
    go_wp2_with fail
    go_ret
    exact .mk rfl (by (repeat (first | (with_reducible exact Below.refl _ _) | (with_reducible assumption) | (with_reducible refine Later.out _ ?_) | (with_reducible refine bel_alloc ?_ _) | (with_reducible refine bel_drew ?_) | (with_reducible refine bel_drewN ?_ _) | (with_reducible refine bel_set ?_ ?_ _) | (with_reducible refine After.out _ ?_ ?_) | (dsimp only; omega) | omega | (simp only [World.size_alloc, World.size_setCell, World.size_drew]; omega))))
  have hn4 : n ≤ 4096 := by omega
  replace hr := Lib.hid hr
  replace hx := Lib.hid hx
  replace hl := Lib.hid hl
  clear hbig hm
  go_enter Tryd.func7, Tryd.ntmps7
  go_wp2_with fail
  with_reducible refine (big_no _ _ _ _ hn4).mono ?_
  rintro e w' ⟨rfl, y0, rfl⟩
  have hsy0 := y0.bel.size
  (try simp only [World.size_alloc, World.size_setCell, World.size_drew] at hsy0)
  go_wp2_with fail
  with_reducible refine (drawAmb_any a n c bs _ (hr.out.bel (by (repeat (first | (with_reducible exact Below.refl _ _) | (with_reducible assumption) | (with_reducible refine Later.out _ ?_) | (with_reducible refine bel_alloc ?_ _) | (with_reducible refine bel_drew ?_) | (with_reducible refine bel_drewN ?_ _) | (with_reducible refine bel_set ?_ ?_ _) | (with_reducible refine After.out _ ?_ ?_) | (dsimp only; omega) | omega | (simp only [World.size_alloc, World.size_setCell, World.size_drew]; omega))))) hl.out hn4 hx.out).mono ?_
  rintro e w' ⟨T, a1, n1, c1, rfl, hl1, h64, hnc, hcm, hok, hR1, z1, rfl⟩
  have hs1 := z1.bel.size
  have CAI := fun w hr => at_impl T a1 n1 c1 w hl1 (by omega) hnc hcm (fun r h => (hok r h).ok) hr
  have CAS := fun w hr => at_spec T a1 n1 c1 w hl1 (by omega) (fun r h => (hok r h).ok) hr
  have CUI := fun w hr => iu_impl T a1 n1 c1 w hl1 (by omega) hnc hcm (fun r h => (hok r h).ok) hr
  have CUS := fun w hr => iu_spec T a1 n1 c1 w hl1 (by omega) (fun r h => (hok r h).ok) hr
  have X1 := at_cases5 T
  have CN1 := fun (v : Int) (h : countR T (atT T) = (v, 0)) (hz : (atT T).size ≤ 48) w hr => (show Calls Tryd.prog 11 #[.slice a1 n1 c1, .string (atT T)] w (Ret w (.tuple #[.int .i64 v, .int .i64 0])) by
    have := count_impl T (atT T) a1 n1 c1 w hl1 (by omega) hnc hcm (fun r h => (hok r h).ok) (by omega) hr
    rw [h] at this
    exact this)
  obtain ⟨tt, htt⟩ : ∃ x, atT T = x := ⟨_, rfl⟩
  obtain ⟨bad, hbad⟩ : ∃ x, atC T = x := ⟨_, rfl⟩
  obtain ⟨uu, huu⟩ : ∃ x, iuB T = x := ⟨_, rfl⟩
  obtain ⟨one, hone⟩ : ∃ x, iuC T = x := ⟨_, rfl⟩
  simp only [htt, hbad, huu, hone] at CAI CAS CUI CUS X1 CN1
  replace CAI := Lib.hid CAI
  replace CAS := Lib.hid CAS
  replace CUI := Lib.hid CUI
  replace CUS := Lib.hid CUS
  replace CN1 := Lib.hid CN1
  replace X1 := Lib.hid X1
  replace hR1 := Lib.hid hR1
  clear hok htt hbad huu hone hl1
  go_wp2_with fail
  with_reducible refine (CAI.out _ (hR1.out.bel (by (repeat (first | (with_reducible exact Below.refl _ _) | (with_reducible assumption) | (with_reducible refine Later.out _ ?_) | (with_reducible refine bel_alloc ?_ _) | (with_reducible refine bel_drew ?_) | (with_reducible refine bel_drewN ?_ _) | (with_reducible refine bel_set ?_ ?_ _) | (with_reducible refine After.out _ ?_ ?_) | (dsimp only; omega) | omega | (simp only [World.size_alloc, World.size_setCell, World.size_drew]; omega)))))).mono ?_
  rintro e w' ⟨rfl, y2, rfl⟩
  have hsy2 := y2.bel.size
  (try simp only [World.size_alloc, World.size_setCell, World.size_drew] at hsy2)
  go_wp2_with fail
  with_reducible refine (CAS.out _ (hR1.out.bel (by (repeat (first | (with_reducible exact Below.refl _ _) | (with_reducible assumption) | (with_reducible refine Later.out _ ?_) | (with_reducible refine bel_alloc ?_ _) | (with_reducible refine bel_drew ?_) | (with_reducible refine bel_drewN ?_ _) | (with_reducible refine bel_set ?_ ?_ _) | (with_reducible refine After.out _ ?_ ?_) | (dsimp only; omega) | omega | (simp only [World.size_alloc, World.size_setCell, World.size_drew]; omega)))))).mono ?_
  rintro e w' ⟨rfl, y3, rfl⟩
  have hsy3 := y3.bel.size
  (try simp only [World.size_alloc, World.size_setCell, World.size_drew] at hsy3)
  go_wp2_with fail
  with_reducible refine (CUI.out _ (hR1.out.bel (by (repeat (first | (with_reducible exact Below.refl _ _) | (with_reducible assumption) | (with_reducible refine Later.out _ ?_) | (with_reducible refine bel_alloc ?_ _) | (with_reducible refine bel_drew ?_) | (with_reducible refine bel_drewN ?_ _) | (with_reducible refine bel_set ?_ ?_ _) | (with_reducible refine After.out _ ?_ ?_) | (dsimp only; omega) | omega | (simp only [World.size_alloc, World.size_setCell, World.size_drew]; omega)))))).mono ?_
  rintro e w' ⟨rfl, y4, rfl⟩
  have hsy4 := y4.bel.size
  (try simp only [World.size_alloc, World.size_setCell, World.size_drew] at hsy4)
  go_wp2_with fail
  with_reducible refine (CUS.out _ (hR1.out.bel (by (repeat (first | (with_reducible exact Below.refl _ _) | (with_reducible assumption) | (with_reducible refine Later.out _ ?_) | (with_reducible refine bel_alloc ?_ _) | (with_reducible refine bel_drew ?_) | (with_reducible refine bel_drewN ?_ _) | (with_reducible refine bel_set ?_ ?_ _) | (with_reducible refine After.out _ ?_ ?_) | (dsimp only; omega) | omega | (simp only [World.size_alloc, World.size_setCell, World.size_drew]; omega)))))).mono ?_
  rintro e w' ⟨rfl, y5, rfl⟩
  have hsy5 := y5.bel.size
  (try simp only [World.size_alloc, World.size_setCell, World.size_drew] at hsy5)
  go_wp2_with fail
  with_reducible refine (drawCnt_any a n c bs _ (hr.out.bel (by (repeat (first | (with_reducible exact Below.refl _ _) | (with_reducible assumption) | (with_reducible refine Later.out _ ?_) | (with_reducible refine bel_alloc ?_ _) | (with_reducible refine bel_drew ?_) | (with_reducible refine bel_drewN ?_ _) | (with_reducible refine bel_set ?_ ?_ _) | (with_reducible refine After.out _ ?_ ?_) | (dsimp only; omega) | omega | (simp only [World.size_alloc, World.size_setCell, World.size_drew]; omega))))) hl.out hn4 hx.out).mono ?_
  rintro e w' ⟨T2, a2, n2, c2, s, rfl, hl2, h642, hnc2, hcm2, hok2, hs20, hR2, z6, rfl⟩
  have hs6 := z6.bel.size
  have CCI := fun w hr => count_impl T2 s a2 n2 c2 w hl2 (by omega) hnc2 hcm2 (fun r h => (hok2 r h).ok) (by omega) hr
  have CCS := fun w hr => count_spec T2 s a2 n2 c2 w hl2 (by omega) (fun r h => (hok2 r h).ok) (by omega) hr
  have CFI := fun w hr => first_impl T2 s a2 n2 c2 w hl2 (by omega) hnc2 hcm2 (fun r h => (hok2 r h).ok) (by omega) hr
  have CFS := fun w hr => first_spec T2 s a2 n2 c2 w hl2 (by omega) (fun r h => (hok2 r h).ok) (by omega) hr
  have CUI2 := fun w hr => iu_impl T2 a2 n2 c2 w hl2 (by omega) hnc2 hcm2 (fun r h => (hok2 r h).ok) hr
  have X2 := cnt_cases T2 s
  have X3 := fun h => fr_facts (T := T2) (s := s) h
  have hFl := frL_len T2 s
  have hsg := Lib.hid (fun r (h : r ∈ T2) => (hok2 r h).t)
  obtain ⟨F, hF⟩ : ∃ x, frL T2 s = x := ⟨_, rfl⟩
  obtain ⟨five, hfive⟩ : ∃ x, frC T2 s = x := ⟨_, rfl⟩
  obtain ⟨⟨nn, three⟩, hnn⟩ : ∃ x, countR T2 s = x := ⟨_, rfl⟩
  obtain ⟨pl, hpl⟩ : ∃ x, iuB T2 = x := ⟨_, rfl⟩
  obtain ⟨seven, hseven⟩ : ∃ x, iuC T2 = x := ⟨_, rfl⟩
  simp only [hF, hfive, hnn, hpl, hseven] at CCI CCS CFI CFS CUI2 X2 X3
  rw [hF] at hFl
  have hF1 : F.length ≤ 1048576 := by omega
  have hF20 : F.length ≤ 20000 := by omega
  replace CCI := Lib.hid CCI
  replace CCS := Lib.hid CCS
  replace CFI := Lib.hid CFI
  replace CFS := Lib.hid CFS
  replace CUI2 := Lib.hid CUI2
  replace X2 := Lib.hid X2
  replace X3 := Lib.hid X3
  replace hR2 := Lib.hid hR2
  subst hl2
  clear hok2 hF hfive hnn hpl hseven hFl
  go_wp2_with fail
  with_reducible refine (CCI.out _ (hR2.out.bel (by (repeat (first | (with_reducible exact Below.refl _ _) | (with_reducible assumption) | (with_reducible refine Later.out _ ?_) | (with_reducible refine bel_alloc ?_ _) | (with_reducible refine bel_drew ?_) | (with_reducible refine bel_drewN ?_ _) | (with_reducible refine bel_set ?_ ?_ _) | (with_reducible refine After.out _ ?_ ?_) | (dsimp only; omega) | omega | (simp only [World.size_alloc, World.size_setCell, World.size_drew]; omega)))))).mono ?_
  rintro e w' ⟨rfl, y7, rfl⟩
  have hsy7 := y7.bel.size
  (try simp only [World.size_alloc, World.size_setCell, World.size_drew] at hsy7)
  go_wp2_with fail
  with_reducible refine (CCS.out _ (hR2.out.bel (by (repeat (first | (with_reducible exact Below.refl _ _) | (with_reducible assumption) | (with_reducible refine Later.out _ ?_) | (with_reducible refine bel_alloc ?_ _) | (with_reducible refine bel_drew ?_) | (with_reducible refine bel_drewN ?_ _) | (with_reducible refine bel_set ?_ ?_ _) | (with_reducible refine After.out _ ?_ ?_) | (dsimp only; omega) | omega | (simp only [World.size_alloc, World.size_setCell, World.size_drew]; omega)))))).mono ?_
  rintro e w' ⟨rfl, y8, rfl⟩
  have hsy8 := y8.bel.size
  (try simp only [World.size_alloc, World.size_setCell, World.size_drew] at hsy8)
  go_wp2_with fail
  with_reducible refine (CFI.out _ (hR2.out.bel (by (repeat (first | (with_reducible exact Below.refl _ _) | (with_reducible assumption) | (with_reducible refine Later.out _ ?_) | (with_reducible refine bel_alloc ?_ _) | (with_reducible refine bel_drew ?_) | (with_reducible refine bel_drewN ?_ _) | (with_reducible refine bel_set ?_ ?_ _) | (with_reducible refine After.out _ ?_ ?_) | (dsimp only; omega) | omega | (simp only [World.size_alloc, World.size_setCell, World.size_drew]; omega)))))).mono ?_
  rintro e w' ⟨a9, c9, rfl, hown, y9, rfl⟩
  have hsy9 := y9.bel.size
  (try simp only [World.size_alloc, World.size_setCell, World.size_drew] at hsy9)
  have O9 := Lib.hid (Owns.of hown)
  clear hown
  go_wp2_with fail
  with_reducible refine (CFS.out _ (hR2.out.bel (by (repeat (first | (with_reducible exact Below.refl _ _) | (with_reducible assumption) | (with_reducible refine Later.out _ ?_) | (with_reducible refine bel_alloc ?_ _) | (with_reducible refine bel_drew ?_) | (with_reducible refine bel_drewN ?_ _) | (with_reducible refine bel_set ?_ ?_ _) | (with_reducible refine After.out _ ?_ ?_) | (dsimp only; omega) | omega | (simp only [World.size_alloc, World.size_setCell, World.size_drew]; omega)))))).mono ?_
  rintro e w' ⟨a10, c10, rfl, hown, y10, rfl⟩
  have hsy10 := y10.bel.size
  (try simp only [World.size_alloc, World.size_setCell, World.size_drew] at hsy10)
  have O10 := Lib.hid (Owns.of hown)
  clear hown
  go_wp2_with fail
  with_reducible refine (likeInts_same (l := F) (n := F.length) (n' := F.length) rfl rfl hF1 hF1 (O9.out.row.bel (by (repeat (first | (with_reducible exact Below.refl _ _) | (with_reducible assumption) | (with_reducible refine Later.out _ ?_) | (with_reducible refine bel_alloc ?_ _) | (with_reducible refine bel_drew ?_) | (with_reducible refine bel_drewN ?_ _) | (with_reducible refine bel_set ?_ ?_ _) | (with_reducible refine After.out _ ?_ ?_) | (dsimp only; omega) | omega | (simp only [World.size_alloc, World.size_setCell, World.size_drew]; omega))))) (O10.out.row.bel (by (repeat (first | (with_reducible exact Below.refl _ _) | (with_reducible assumption) | (with_reducible refine Later.out _ ?_) | (with_reducible refine bel_alloc ?_ _) | (with_reducible refine bel_drew ?_) | (with_reducible refine bel_drewN ?_ _) | (with_reducible refine bel_set ?_ ?_ _) | (with_reducible refine After.out _ ?_ ?_) | (dsimp only; omega) | omega | (simp only [World.size_alloc, World.size_setCell, World.size_drew]; omega)))))).mono ?_
  rintro e w' ⟨rfl, y11, rfl⟩
  have hs11 := y11.bel.size
  clear CAI CAS CUI CUS CCI CCS CFI CFS
  have X1c := X1.out
  have X2c := X2.out
  clear X1 X2
  rcases X1c with ⟨rfl, rfl, rfl⟩ | ⟨rfl, rfl, rfl⟩ | ⟨rfl, rfl, rfl⟩ | ⟨rfl, rfl, rfl, hN⟩
  · rcases X2c with ⟨hq, rfl⟩ | ⟨hq, rfl⟩ | ⟨v, hq, hv0, rfl, rfl, hp1⟩ | ⟨hq, rfl, rfl⟩
    · cases hq
      go_wp2_with fail
      with_reducible refine (CUI2.out _ (hR2.out.bel (by (repeat (first | (with_reducible exact Below.refl _ _) | (with_reducible assumption) | (with_reducible refine Later.out _ ?_) | (with_reducible refine bel_alloc ?_ _) | (with_reducible refine bel_drew ?_) | (with_reducible refine bel_drewN ?_ _) | (with_reducible refine bel_set ?_ ?_ _) | (with_reducible refine After.out _ ?_ ?_) | (dsimp only; omega) | omega | (simp only [World.size_alloc, World.size_setCell, World.size_drew]; omega)))))).mono ?_
      rintro e w' ⟨rfl, y12, rfl⟩
      have hsy12 := y12.bel.size
      (try simp only [World.size_alloc, World.size_setCell, World.size_drew] at hsy12)
      go_wp2_with fail
      go_ret
      exact .mk rfl (by (repeat (first | (with_reducible exact Below.refl _ _) | (with_reducible assumption) | (with_reducible refine Later.out _ ?_) | (with_reducible refine bel_alloc ?_ _) | (with_reducible refine bel_drew ?_) | (with_reducible refine bel_drewN ?_ _) | (with_reducible refine bel_set ?_ ?_ _) | (with_reducible refine After.out _ ?_ ?_) | (dsimp only; omega) | omega | (simp only [World.size_alloc, World.size_setCell, World.size_drew]; omega))))
    · cases hq
      obtain ⟨hin, hrom⟩ := X3.out rfl
      go_wp2_with fail
      with_reducible refine (CUI2.out _ (hR2.out.bel (by (repeat (first | (with_reducible exact Below.refl _ _) | (with_reducible assumption) | (with_reducible refine Later.out _ ?_) | (with_reducible refine bel_alloc ?_ _) | (with_reducible refine bel_drew ?_) | (with_reducible refine bel_drewN ?_ _) | (with_reducible refine bel_set ?_ ?_ _) | (with_reducible refine After.out _ ?_ ?_) | (dsimp only; omega) | omega | (simp only [World.size_alloc, World.size_setCell, World.size_drew]; omega)))))).mono ?_
      rintro e w' ⟨rfl, y12, rfl⟩
      have hsy12 := y12.bel.size
      (try simp only [World.size_alloc, World.size_setCell, World.size_drew] at hsy12)
      go_wp2_with fail
      go_loopw [24, 25] (fun ov iv wr => ∃ (i : Nat) (t : ByteArray), i ≤ F.length ∧ iv = .int .i64 i ∧ ov = .string t ∧ t = romL T2 (F.take i) ∧ t.size ≤ 64 * i ∧ ∃ z : Later y12.w, wr = z.w) (fun _ iv _ => F.length - (intOf iv).toNat)
      case atStart => exact ⟨0, _, Nat.zero_le _, rfl, rfl, by rw [romL_zero]; rfl, Nat.zero_le _, ⟨_, Below.refl _ _⟩, rfl⟩
      case round =>
        obtain ⟨i, t, hi, rfl, rfl, ht0, htz, z, rfl⟩ := hrel
        have hzz := z.bel.size
        by_cases hlt : i < F.length
        · have hi1 : (i : Int) < (F.length : Int) := by omega
          obtain ⟨k, hk, e⟩ := inT_at hin hlt
          obtain ⟨bl, ol, rfl, hbl, hcl⟩ := O9.out.row.int hlt
          rw [e] at hcl
          obtain ⟨b, o, ai, ci, rfl, hb, q0, q1, -, -, -⟩ := hR2.out.at_ hk
          have hk1 : (k : Int) < (T2.length : Int) := by omega
          have ht := romL_take hlt e hk
          have hs3 := hsg.out _ (List.getElem_mem hk)
          have hov : t.size + T2[k].rom.size ≤ 9223372036854775807 := by omega
          have hov2 : t.size + T2[k].rom.size < 9223372036854775808 := by omega
          have hb1 : b < y9.w.heap.size := by omega
          have hb2 : b < y10.w.heap.size := by omega
          have hb3 : b < y11.w.heap.size := by omega
          have hb4 : b < y12.w.heap.size := by omega
          have hl1 : bl < y10.w.heap.size := by omega
          have hl2 : bl < y11.w.heap.size := by omega
          have hl4 : bl < y12.w.heap.size := by omega
          have htz2 : t.size + T2[k].rom.size ≤ 64 * (i + 1) := by omega
          rw [← ht0] at ht
          replace ht := Lib.hid ht
          replace ht0 := Lib.hid ht0
          clear e q0
          go_wp2_with fail
          go_roundw
          case rel => exact ⟨i + 1, _, by omega, by go_num, rfl, ht.out.symm, by rw [ByteArray.size_append]; exact htz2, LaterC.mk (by (repeat (first | (with_reducible exact Below.refl _ _) | (with_reducible assumption) | (with_reducible refine Later.out _ ?_) | (with_reducible refine bel_alloc ?_ _) | (with_reducible refine bel_drew ?_) | (with_reducible refine bel_drewN ?_ _) | (with_reducible refine bel_set ?_ ?_ _) | (with_reducible refine After.out _ ?_ ?_) | (dsimp only; omega) | omega | (simp only [World.size_alloc, World.size_setCell, World.size_drew]; omega))))⟩
          case measure => first | (simp [intOf]; done) | (simp [intOf]; omega) | omega
        · obtain rfl : i = F.length := by omega
          rw [List.take_length, hrom] at ht0
          subst ht0
          have hsame : (t.toList != t.toList) = false := by simp
          clear htz
          go_wp2_with fail
          go_ret
          exact .mk rfl (by (repeat (first | (with_reducible exact Below.refl _ _) | (with_reducible assumption) | (with_reducible refine Later.out _ ?_) | (with_reducible refine bel_alloc ?_ _) | (with_reducible refine bel_drew ?_) | (with_reducible refine bel_drewN ?_ _) | (with_reducible refine bel_set ?_ ?_ _) | (with_reducible refine After.out _ ?_ ?_) | (dsimp only; omega) | omega | (simp only [World.size_alloc, World.size_setCell, World.size_drew]; omega))))
    · cases hq
      obtain ⟨hin, hrom⟩ := X3.out rfl
      have hv0i : nn > 0 := hv0
      cases pl
      · skip
        go_wp2_with fail
        with_reducible refine (CUI2.out _ (hR2.out.bel (by (repeat (first | (with_reducible exact Below.refl _ _) | (with_reducible assumption) | (with_reducible refine Later.out _ ?_) | (with_reducible refine bel_alloc ?_ _) | (with_reducible refine bel_drew ?_) | (with_reducible refine bel_drewN ?_ _) | (with_reducible refine bel_set ?_ ?_ _) | (with_reducible refine After.out _ ?_ ?_) | (dsimp only; omega) | omega | (simp only [World.size_alloc, World.size_setCell, World.size_drew]; omega)))))).mono ?_
        rintro e w' ⟨rfl, y12, rfl⟩
        have hsy12 := y12.bel.size
        (try simp only [World.size_alloc, World.size_setCell, World.size_drew] at hsy12)
        go_wp2_with fail
        go_loopw [24, 25] (fun ov iv wr => ∃ (i : Nat) (t : ByteArray), i ≤ F.length ∧ iv = .int .i64 i ∧ ov = .string t ∧ t = romL T2 (F.take i) ∧ t.size ≤ 64 * i ∧ ∃ z : Later y12.w, wr = z.w) (fun _ iv _ => F.length - (intOf iv).toNat)
        case atStart => exact ⟨0, _, Nat.zero_le _, rfl, rfl, by rw [romL_zero]; rfl, Nat.zero_le _, ⟨_, Below.refl _ _⟩, rfl⟩
        case round =>
          obtain ⟨i, t, hi, rfl, rfl, ht0, htz, z, rfl⟩ := hrel
          have hzz := z.bel.size
          by_cases hlt : i < F.length
          · have hi1 : (i : Int) < (F.length : Int) := by omega
            obtain ⟨k, hk, e⟩ := inT_at hin hlt
            obtain ⟨bl, ol, rfl, hbl, hcl⟩ := O9.out.row.int hlt
            rw [e] at hcl
            obtain ⟨b, o, ai, ci, rfl, hb, q0, q1, -, -, -⟩ := hR2.out.at_ hk
            have hk1 : (k : Int) < (T2.length : Int) := by omega
            have ht := romL_take hlt e hk
            have hs3 := hsg.out _ (List.getElem_mem hk)
            have hov : t.size + T2[k].rom.size ≤ 9223372036854775807 := by omega
            have hov2 : t.size + T2[k].rom.size < 9223372036854775808 := by omega
            have hb1 : b < y9.w.heap.size := by omega
            have hb2 : b < y10.w.heap.size := by omega
            have hb3 : b < y11.w.heap.size := by omega
            have hb4 : b < y12.w.heap.size := by omega
            have hl1 : bl < y10.w.heap.size := by omega
            have hl2 : bl < y11.w.heap.size := by omega
            have hl4 : bl < y12.w.heap.size := by omega
            have htz2 : t.size + T2[k].rom.size ≤ 64 * (i + 1) := by omega
            rw [← ht0] at ht
            replace ht := Lib.hid ht
            replace ht0 := Lib.hid ht0
            clear e q0
            go_wp2_with fail
            go_roundw
            case rel => exact ⟨i + 1, _, by omega, by go_num, rfl, ht.out.symm, by rw [ByteArray.size_append]; exact htz2, LaterC.mk (by (repeat (first | (with_reducible exact Below.refl _ _) | (with_reducible assumption) | (with_reducible refine Later.out _ ?_) | (with_reducible refine bel_alloc ?_ _) | (with_reducible refine bel_drew ?_) | (with_reducible refine bel_drewN ?_ _) | (with_reducible refine bel_set ?_ ?_ _) | (with_reducible refine After.out _ ?_ ?_) | (dsimp only; omega) | omega | (simp only [World.size_alloc, World.size_setCell, World.size_drew]; omega))))⟩
            case measure => first | (simp [intOf]; done) | (simp [intOf]; omega) | omega
          · obtain rfl : i = F.length := by omega
            rw [List.take_length, hrom] at ht0
            subst ht0
            have hsame : (t.toList != t.toList) = false := by simp
            clear htz
            go_wp2_with fail
            go_ret
            exact .mk rfl (by (repeat (first | (with_reducible exact Below.refl _ _) | (with_reducible assumption) | (with_reducible refine Later.out _ ?_) | (with_reducible refine bel_alloc ?_ _) | (with_reducible refine bel_drew ?_) | (with_reducible refine bel_drewN ?_ _) | (with_reducible refine bel_set ?_ ?_ _) | (with_reducible refine After.out _ ?_ ?_) | (dsimp only; omega) | omega | (simp only [World.size_alloc, World.size_setCell, World.size_drew]; omega))))
      · have hle := hp1 rfl
        have hle2 : ¬ (1 : Int) < nn := by omega
        go_wp2_with fail
        with_reducible refine (CUI2.out _ (hR2.out.bel (by (repeat (first | (with_reducible exact Below.refl _ _) | (with_reducible assumption) | (with_reducible refine Later.out _ ?_) | (with_reducible refine bel_alloc ?_ _) | (with_reducible refine bel_drew ?_) | (with_reducible refine bel_drewN ?_ _) | (with_reducible refine bel_set ?_ ?_ _) | (with_reducible refine After.out _ ?_ ?_) | (dsimp only; omega) | omega | (simp only [World.size_alloc, World.size_setCell, World.size_drew]; omega)))))).mono ?_
        rintro e w' ⟨rfl, y12, rfl⟩
        have hsy12 := y12.bel.size
        (try simp only [World.size_alloc, World.size_setCell, World.size_drew] at hsy12)
        go_wp2_with fail
        go_loopw [24, 25] (fun ov iv wr => ∃ (i : Nat) (t : ByteArray), i ≤ F.length ∧ iv = .int .i64 i ∧ ov = .string t ∧ t = romL T2 (F.take i) ∧ t.size ≤ 64 * i ∧ ∃ z : Later y12.w, wr = z.w) (fun _ iv _ => F.length - (intOf iv).toNat)
        case atStart => exact ⟨0, _, Nat.zero_le _, rfl, rfl, by rw [romL_zero]; rfl, Nat.zero_le _, ⟨_, Below.refl _ _⟩, rfl⟩
        case round =>
          obtain ⟨i, t, hi, rfl, rfl, ht0, htz, z, rfl⟩ := hrel
          have hzz := z.bel.size
          by_cases hlt : i < F.length
          · have hi1 : (i : Int) < (F.length : Int) := by omega
            obtain ⟨k, hk, e⟩ := inT_at hin hlt
            obtain ⟨bl, ol, rfl, hbl, hcl⟩ := O9.out.row.int hlt
            rw [e] at hcl
            obtain ⟨b, o, ai, ci, rfl, hb, q0, q1, -, -, -⟩ := hR2.out.at_ hk
            have hk1 : (k : Int) < (T2.length : Int) := by omega
            have ht := romL_take hlt e hk
            have hs3 := hsg.out _ (List.getElem_mem hk)
            have hov : t.size + T2[k].rom.size ≤ 9223372036854775807 := by omega
            have hov2 : t.size + T2[k].rom.size < 9223372036854775808 := by omega
            have hb1 : b < y9.w.heap.size := by omega
            have hb2 : b < y10.w.heap.size := by omega
            have hb3 : b < y11.w.heap.size := by omega
            have hb4 : b < y12.w.heap.size := by omega
            have hl1 : bl < y10.w.heap.size := by omega
            have hl2 : bl < y11.w.heap.size := by omega
            have hl4 : bl < y12.w.heap.size := by omega
            have htz2 : t.size + T2[k].rom.size ≤ 64 * (i + 1) := by omega
            rw [← ht0] at ht
            replace ht := Lib.hid ht
            replace ht0 := Lib.hid ht0
            clear e q0
            go_wp2_with fail
            go_roundw
            case rel => exact ⟨i + 1, _, by omega, by go_num, rfl, ht.out.symm, by rw [ByteArray.size_append]; exact htz2, LaterC.mk (by (repeat (first | (with_reducible exact Below.refl _ _) | (with_reducible assumption) | (with_reducible refine Later.out _ ?_) | (with_reducible refine bel_alloc ?_ _) | (with_reducible refine bel_drew ?_) | (with_reducible refine bel_drewN ?_ _) | (with_reducible refine bel_set ?_ ?_ _) | (with_reducible refine After.out _ ?_ ?_) | (dsimp only; omega) | omega | (simp only [World.size_alloc, World.size_setCell, World.size_drew]; omega))))⟩
            case measure => first | (simp [intOf]; done) | (simp [intOf]; omega) | omega
          · obtain rfl : i = F.length := by omega
            rw [List.take_length, hrom] at ht0
            subst ht0
            have hsame : (t.toList != t.toList) = false := by simp
            clear htz
            go_wp2_with fail
            go_ret
            exact .mk rfl (by (repeat (first | (with_reducible exact Below.refl _ _) | (with_reducible assumption) | (with_reducible refine Later.out _ ?_) | (with_reducible refine bel_alloc ?_ _) | (with_reducible refine bel_drew ?_) | (with_reducible refine bel_drewN ?_ _) | (with_reducible refine bel_set ?_ ?_ _) | (with_reducible refine After.out _ ?_ ?_) | (dsimp only; omega) | omega | (simp only [World.size_alloc, World.size_setCell, World.size_drew]; omega))))
    · cases hq
      cases pl
      · skip
        go_wp2_with fail
        with_reducible refine (CUI2.out _ (hR2.out.bel (by (repeat (first | (with_reducible exact Below.refl _ _) | (with_reducible assumption) | (with_reducible refine Later.out _ ?_) | (with_reducible refine bel_alloc ?_ _) | (with_reducible refine bel_drew ?_) | (with_reducible refine bel_drewN ?_ _) | (with_reducible refine bel_set ?_ ?_ _) | (with_reducible refine After.out _ ?_ ?_) | (dsimp only; omega) | omega | (simp only [World.size_alloc, World.size_setCell, World.size_drew]; omega)))))).mono ?_
        rintro e w' ⟨rfl, y12, rfl⟩
        have hsy12 := y12.bel.size
        (try simp only [World.size_alloc, World.size_setCell, World.size_drew] at hsy12)
        go_wp2_with fail
        go_ret
        exact .mk rfl (by (repeat (first | (with_reducible exact Below.refl _ _) | (with_reducible assumption) | (with_reducible refine Later.out _ ?_) | (with_reducible refine bel_alloc ?_ _) | (with_reducible refine bel_drew ?_) | (with_reducible refine bel_drewN ?_ _) | (with_reducible refine bel_set ?_ ?_ _) | (with_reducible refine After.out _ ?_ ?_) | (dsimp only; omega) | omega | (simp only [World.size_alloc, World.size_setCell, World.size_drew]; omega))))
      · skip
        go_wp2_with fail
        with_reducible refine (CUI2.out _ (hR2.out.bel (by (repeat (first | (with_reducible exact Below.refl _ _) | (with_reducible assumption) | (with_reducible refine Later.out _ ?_) | (with_reducible refine bel_alloc ?_ _) | (with_reducible refine bel_drew ?_) | (with_reducible refine bel_drewN ?_ _) | (with_reducible refine bel_set ?_ ?_ _) | (with_reducible refine After.out _ ?_ ?_) | (dsimp only; omega) | omega | (simp only [World.size_alloc, World.size_setCell, World.size_drew]; omega)))))).mono ?_
        rintro e w' ⟨rfl, y12, rfl⟩
        have hsy12 := y12.bel.size
        (try simp only [World.size_alloc, World.size_setCell, World.size_drew] at hsy12)
        go_wp2_with fail
        go_ret
        exact .mk rfl (by (repeat (first | (with_reducible exact Below.refl _ _) | (with_reducible assumption) | (with_reducible refine Later.out _ ?_) | (with_reducible refine bel_alloc ?_ _) | (with_reducible refine bel_drew ?_) | (with_reducible refine bel_drewN ?_ _) | (with_reducible refine bel_set ?_ ?_ _) | (with_reducible refine After.out _ ?_ ?_) | (dsimp only; omega) | omega | (simp only [World.size_alloc, World.size_setCell, World.size_drew]; omega))))
  · rcases X2c with ⟨hq, rfl⟩ | ⟨hq, rfl⟩ | ⟨v, hq, hv0, rfl, rfl, hp1⟩ | ⟨hq, rfl, rfl⟩
    · cases hq
      go_wp2_with fail
      with_reducible refine (CUI2.out _ (hR2.out.bel (by (repeat (first | (with_reducible exact Below.refl _ _) | (with_reducible assumption) | (with_reducible refine Later.out _ ?_) | (with_reducible refine bel_alloc ?_ _) | (with_reducible refine bel_drew ?_) | (with_reducible refine bel_drewN ?_ _) | (with_reducible refine bel_set ?_ ?_ _) | (with_reducible refine After.out _ ?_ ?_) | (dsimp only; omega) | omega | (simp only [World.size_alloc, World.size_setCell, World.size_drew]; omega)))))).mono ?_
      rintro e w' ⟨rfl, y12, rfl⟩
      have hsy12 := y12.bel.size
      (try simp only [World.size_alloc, World.size_setCell, World.size_drew] at hsy12)
      go_wp2_with fail
      go_ret
      exact .mk rfl (by (repeat (first | (with_reducible exact Below.refl _ _) | (with_reducible assumption) | (with_reducible refine Later.out _ ?_) | (with_reducible refine bel_alloc ?_ _) | (with_reducible refine bel_drew ?_) | (with_reducible refine bel_drewN ?_ _) | (with_reducible refine bel_set ?_ ?_ _) | (with_reducible refine After.out _ ?_ ?_) | (dsimp only; omega) | omega | (simp only [World.size_alloc, World.size_setCell, World.size_drew]; omega))))
    · cases hq
      obtain ⟨hin, hrom⟩ := X3.out rfl
      go_wp2_with fail
      with_reducible refine (CUI2.out _ (hR2.out.bel (by (repeat (first | (with_reducible exact Below.refl _ _) | (with_reducible assumption) | (with_reducible refine Later.out _ ?_) | (with_reducible refine bel_alloc ?_ _) | (with_reducible refine bel_drew ?_) | (with_reducible refine bel_drewN ?_ _) | (with_reducible refine bel_set ?_ ?_ _) | (with_reducible refine After.out _ ?_ ?_) | (dsimp only; omega) | omega | (simp only [World.size_alloc, World.size_setCell, World.size_drew]; omega)))))).mono ?_
      rintro e w' ⟨rfl, y12, rfl⟩
      have hsy12 := y12.bel.size
      (try simp only [World.size_alloc, World.size_setCell, World.size_drew] at hsy12)
      go_wp2_with fail
      go_loopw [24, 25] (fun ov iv wr => ∃ (i : Nat) (t : ByteArray), i ≤ F.length ∧ iv = .int .i64 i ∧ ov = .string t ∧ t = romL T2 (F.take i) ∧ t.size ≤ 64 * i ∧ ∃ z : Later y12.w, wr = z.w) (fun _ iv _ => F.length - (intOf iv).toNat)
      case atStart => exact ⟨0, _, Nat.zero_le _, rfl, rfl, by rw [romL_zero]; rfl, Nat.zero_le _, ⟨_, Below.refl _ _⟩, rfl⟩
      case round =>
        obtain ⟨i, t, hi, rfl, rfl, ht0, htz, z, rfl⟩ := hrel
        have hzz := z.bel.size
        by_cases hlt : i < F.length
        · have hi1 : (i : Int) < (F.length : Int) := by omega
          obtain ⟨k, hk, e⟩ := inT_at hin hlt
          obtain ⟨bl, ol, rfl, hbl, hcl⟩ := O9.out.row.int hlt
          rw [e] at hcl
          obtain ⟨b, o, ai, ci, rfl, hb, q0, q1, -, -, -⟩ := hR2.out.at_ hk
          have hk1 : (k : Int) < (T2.length : Int) := by omega
          have ht := romL_take hlt e hk
          have hs3 := hsg.out _ (List.getElem_mem hk)
          have hov : t.size + T2[k].rom.size ≤ 9223372036854775807 := by omega
          have hov2 : t.size + T2[k].rom.size < 9223372036854775808 := by omega
          have hb1 : b < y9.w.heap.size := by omega
          have hb2 : b < y10.w.heap.size := by omega
          have hb3 : b < y11.w.heap.size := by omega
          have hb4 : b < y12.w.heap.size := by omega
          have hl1 : bl < y10.w.heap.size := by omega
          have hl2 : bl < y11.w.heap.size := by omega
          have hl4 : bl < y12.w.heap.size := by omega
          have htz2 : t.size + T2[k].rom.size ≤ 64 * (i + 1) := by omega
          rw [← ht0] at ht
          replace ht := Lib.hid ht
          replace ht0 := Lib.hid ht0
          clear e q0
          go_wp2_with fail
          go_roundw
          case rel => exact ⟨i + 1, _, by omega, by go_num, rfl, ht.out.symm, by rw [ByteArray.size_append]; exact htz2, LaterC.mk (by (repeat (first | (with_reducible exact Below.refl _ _) | (with_reducible assumption) | (with_reducible refine Later.out _ ?_) | (with_reducible refine bel_alloc ?_ _) | (with_reducible refine bel_drew ?_) | (with_reducible refine bel_drewN ?_ _) | (with_reducible refine bel_set ?_ ?_ _) | (with_reducible refine After.out _ ?_ ?_) | (dsimp only; omega) | omega | (simp only [World.size_alloc, World.size_setCell, World.size_drew]; omega))))⟩
          case measure => first | (simp [intOf]; done) | (simp [intOf]; omega) | omega
        · obtain rfl : i = F.length := by omega
          rw [List.take_length, hrom] at ht0
          subst ht0
          have hsame : (t.toList != t.toList) = false := by simp
          clear htz
          go_wp2_with fail
          go_ret
          exact .mk rfl (by (repeat (first | (with_reducible exact Below.refl _ _) | (with_reducible assumption) | (with_reducible refine Later.out _ ?_) | (with_reducible refine bel_alloc ?_ _) | (with_reducible refine bel_drew ?_) | (with_reducible refine bel_drewN ?_ _) | (with_reducible refine bel_set ?_ ?_ _) | (with_reducible refine After.out _ ?_ ?_) | (dsimp only; omega) | omega | (simp only [World.size_alloc, World.size_setCell, World.size_drew]; omega))))
    · cases hq
      obtain ⟨hin, hrom⟩ := X3.out rfl
      have hv0i : nn > 0 := hv0
      cases pl
      · skip
        go_wp2_with fail
        with_reducible refine (CUI2.out _ (hR2.out.bel (by (repeat (first | (with_reducible exact Below.refl _ _) | (with_reducible assumption) | (with_reducible refine Later.out _ ?_) | (with_reducible refine bel_alloc ?_ _) | (with_reducible refine bel_drew ?_) | (with_reducible refine bel_drewN ?_ _) | (with_reducible refine bel_set ?_ ?_ _) | (with_reducible refine After.out _ ?_ ?_) | (dsimp only; omega) | omega | (simp only [World.size_alloc, World.size_setCell, World.size_drew]; omega)))))).mono ?_
        rintro e w' ⟨rfl, y12, rfl⟩
        have hsy12 := y12.bel.size
        (try simp only [World.size_alloc, World.size_setCell, World.size_drew] at hsy12)
        go_wp2_with fail
        go_loopw [24, 25] (fun ov iv wr => ∃ (i : Nat) (t : ByteArray), i ≤ F.length ∧ iv = .int .i64 i ∧ ov = .string t ∧ t = romL T2 (F.take i) ∧ t.size ≤ 64 * i ∧ ∃ z : Later y12.w, wr = z.w) (fun _ iv _ => F.length - (intOf iv).toNat)
        case atStart => exact ⟨0, _, Nat.zero_le _, rfl, rfl, by rw [romL_zero]; rfl, Nat.zero_le _, ⟨_, Below.refl _ _⟩, rfl⟩
        case round =>
          obtain ⟨i, t, hi, rfl, rfl, ht0, htz, z, rfl⟩ := hrel
          have hzz := z.bel.size
          by_cases hlt : i < F.length
          · have hi1 : (i : Int) < (F.length : Int) := by omega
            obtain ⟨k, hk, e⟩ := inT_at hin hlt
            obtain ⟨bl, ol, rfl, hbl, hcl⟩ := O9.out.row.int hlt
            rw [e] at hcl
            obtain ⟨b, o, ai, ci, rfl, hb, q0, q1, -, -, -⟩ := hR2.out.at_ hk
            have hk1 : (k : Int) < (T2.length : Int) := by omega
            have ht := romL_take hlt e hk
            have hs3 := hsg.out _ (List.getElem_mem hk)
            have hov : t.size + T2[k].rom.size ≤ 9223372036854775807 := by omega
            have hov2 : t.size + T2[k].rom.size < 9223372036854775808 := by omega
            have hb1 : b < y9.w.heap.size := by omega
            have hb2 : b < y10.w.heap.size := by omega
            have hb3 : b < y11.w.heap.size := by omega
            have hb4 : b < y12.w.heap.size := by omega
            have hl1 : bl < y10.w.heap.size := by omega
            have hl2 : bl < y11.w.heap.size := by omega
            have hl4 : bl < y12.w.heap.size := by omega
            have htz2 : t.size + T2[k].rom.size ≤ 64 * (i + 1) := by omega
            rw [← ht0] at ht
            replace ht := Lib.hid ht
            replace ht0 := Lib.hid ht0
            clear e q0
            go_wp2_with fail
            go_roundw
            case rel => exact ⟨i + 1, _, by omega, by go_num, rfl, ht.out.symm, by rw [ByteArray.size_append]; exact htz2, LaterC.mk (by (repeat (first | (with_reducible exact Below.refl _ _) | (with_reducible assumption) | (with_reducible refine Later.out _ ?_) | (with_reducible refine bel_alloc ?_ _) | (with_reducible refine bel_drew ?_) | (with_reducible refine bel_drewN ?_ _) | (with_reducible refine bel_set ?_ ?_ _) | (with_reducible refine After.out _ ?_ ?_) | (dsimp only; omega) | omega | (simp only [World.size_alloc, World.size_setCell, World.size_drew]; omega))))⟩
            case measure => first | (simp [intOf]; done) | (simp [intOf]; omega) | omega
          · obtain rfl : i = F.length := by omega
            rw [List.take_length, hrom] at ht0
            subst ht0
            have hsame : (t.toList != t.toList) = false := by simp
            clear htz
            go_wp2_with fail
            go_ret
            exact .mk rfl (by (repeat (first | (with_reducible exact Below.refl _ _) | (with_reducible assumption) | (with_reducible refine Later.out _ ?_) | (with_reducible refine bel_alloc ?_ _) | (with_reducible refine bel_drew ?_) | (with_reducible refine bel_drewN ?_ _) | (with_reducible refine bel_set ?_ ?_ _) | (with_reducible refine After.out _ ?_ ?_) | (dsimp only; omega) | omega | (simp only [World.size_alloc, World.size_setCell, World.size_drew]; omega))))
      · have hle := hp1 rfl
        have hle2 : ¬ (1 : Int) < nn := by omega
        go_wp2_with fail
        with_reducible refine (CUI2.out _ (hR2.out.bel (by (repeat (first | (with_reducible exact Below.refl _ _) | (with_reducible assumption) | (with_reducible refine Later.out _ ?_) | (with_reducible refine bel_alloc ?_ _) | (with_reducible refine bel_drew ?_) | (with_reducible refine bel_drewN ?_ _) | (with_reducible refine bel_set ?_ ?_ _) | (with_reducible refine After.out _ ?_ ?_) | (dsimp only; omega) | omega | (simp only [World.size_alloc, World.size_setCell, World.size_drew]; omega)))))).mono ?_
        rintro e w' ⟨rfl, y12, rfl⟩
        have hsy12 := y12.bel.size
        (try simp only [World.size_alloc, World.size_setCell, World.size_drew] at hsy12)
        go_wp2_with fail
        go_loopw [24, 25] (fun ov iv wr => ∃ (i : Nat) (t : ByteArray), i ≤ F.length ∧ iv = .int .i64 i ∧ ov = .string t ∧ t = romL T2 (F.take i) ∧ t.size ≤ 64 * i ∧ ∃ z : Later y12.w, wr = z.w) (fun _ iv _ => F.length - (intOf iv).toNat)
        case atStart => exact ⟨0, _, Nat.zero_le _, rfl, rfl, by rw [romL_zero]; rfl, Nat.zero_le _, ⟨_, Below.refl _ _⟩, rfl⟩
        case round =>
          obtain ⟨i, t, hi, rfl, rfl, ht0, htz, z, rfl⟩ := hrel
          have hzz := z.bel.size
          by_cases hlt : i < F.length
          · have hi1 : (i : Int) < (F.length : Int) := by omega
            obtain ⟨k, hk, e⟩ := inT_at hin hlt
            obtain ⟨bl, ol, rfl, hbl, hcl⟩ := O9.out.row.int hlt
            rw [e] at hcl
            obtain ⟨b, o, ai, ci, rfl, hb, q0, q1, -, -, -⟩ := hR2.out.at_ hk
            have hk1 : (k : Int) < (T2.length : Int) := by omega
            have ht := romL_take hlt e hk
            have hs3 := hsg.out _ (List.getElem_mem hk)
            have hov : t.size + T2[k].rom.size ≤ 9223372036854775807 := by omega
            have hov2 : t.size + T2[k].rom.size < 9223372036854775808 := by omega
            have hb1 : b < y9.w.heap.size := by omega
            have hb2 : b < y10.w.heap.size := by omega
            have hb3 : b < y11.w.heap.size := by omega
            have hb4 : b < y12.w.heap.size := by omega
            have hl1 : bl < y10.w.heap.size := by omega
            have hl2 : bl < y11.w.heap.size := by omega
            have hl4 : bl < y12.w.heap.size := by omega
            have htz2 : t.size + T2[k].rom.size ≤ 64 * (i + 1) := by omega
            rw [← ht0] at ht
            replace ht := Lib.hid ht
            replace ht0 := Lib.hid ht0
            clear e q0
            go_wp2_with fail
            go_roundw
            case rel => exact ⟨i + 1, _, by omega, by go_num, rfl, ht.out.symm, by rw [ByteArray.size_append]; exact htz2, LaterC.mk (by (repeat (first | (with_reducible exact Below.refl _ _) | (with_reducible assumption) | (with_reducible refine Later.out _ ?_) | (with_reducible refine bel_alloc ?_ _) | (with_reducible refine bel_drew ?_) | (with_reducible refine bel_drewN ?_ _) | (with_reducible refine bel_set ?_ ?_ _) | (with_reducible refine After.out _ ?_ ?_) | (dsimp only; omega) | omega | (simp only [World.size_alloc, World.size_setCell, World.size_drew]; omega))))⟩
            case measure => first | (simp [intOf]; done) | (simp [intOf]; omega) | omega
          · obtain rfl : i = F.length := by omega
            rw [List.take_length, hrom] at ht0
            subst ht0
            have hsame : (t.toList != t.toList) = false := by simp
            clear htz
            go_wp2_with fail
            go_ret
            exact .mk rfl (by (repeat (first | (with_reducible exact Below.refl _ _) | (with_reducible assumption) | (with_reducible refine Later.out _ ?_) | (with_reducible refine bel_alloc ?_ _) | (with_reducible refine bel_drew ?_) | (with_reducible refine bel_drewN ?_ _) | (with_reducible refine bel_set ?_ ?_ _) | (with_reducible refine After.out _ ?_ ?_) | (dsimp only; omega) | omega | (simp only [World.size_alloc, World.size_setCell, World.size_drew]; omega))))
    · cases hq
      cases pl
      · skip
        go_wp2_with fail
        with_reducible refine (CUI2.out _ (hR2.out.bel (by (repeat (first | (with_reducible exact Below.refl _ _) | (with_reducible assumption) | (with_reducible refine Later.out _ ?_) | (with_reducible refine bel_alloc ?_ _) | (with_reducible refine bel_drew ?_) | (with_reducible refine bel_drewN ?_ _) | (with_reducible refine bel_set ?_ ?_ _) | (with_reducible refine After.out _ ?_ ?_) | (dsimp only; omega) | omega | (simp only [World.size_alloc, World.size_setCell, World.size_drew]; omega)))))).mono ?_
        rintro e w' ⟨rfl, y12, rfl⟩
        have hsy12 := y12.bel.size
        (try simp only [World.size_alloc, World.size_setCell, World.size_drew] at hsy12)
        go_wp2_with fail
        go_ret
        exact .mk rfl (by (repeat (first | (with_reducible exact Below.refl _ _) | (with_reducible assumption) | (with_reducible refine Later.out _ ?_) | (with_reducible refine bel_alloc ?_ _) | (with_reducible refine bel_drew ?_) | (with_reducible refine bel_drewN ?_ _) | (with_reducible refine bel_set ?_ ?_ _) | (with_reducible refine After.out _ ?_ ?_) | (dsimp only; omega) | omega | (simp only [World.size_alloc, World.size_setCell, World.size_drew]; omega))))
      · skip
        go_wp2_with fail
        with_reducible refine (CUI2.out _ (hR2.out.bel (by (repeat (first | (with_reducible exact Below.refl _ _) | (with_reducible assumption) | (with_reducible refine Later.out _ ?_) | (with_reducible refine bel_alloc ?_ _) | (with_reducible refine bel_drew ?_) | (with_reducible refine bel_drewN ?_ _) | (with_reducible refine bel_set ?_ ?_ _) | (with_reducible refine After.out _ ?_ ?_) | (dsimp only; omega) | omega | (simp only [World.size_alloc, World.size_setCell, World.size_drew]; omega)))))).mono ?_
        rintro e w' ⟨rfl, y12, rfl⟩
        have hsy12 := y12.bel.size
        (try simp only [World.size_alloc, World.size_setCell, World.size_drew] at hsy12)
        go_wp2_with fail
        go_ret
        exact .mk rfl (by (repeat (first | (with_reducible exact Below.refl _ _) | (with_reducible assumption) | (with_reducible refine Later.out _ ?_) | (with_reducible refine bel_alloc ?_ _) | (with_reducible refine bel_drew ?_) | (with_reducible refine bel_drewN ?_ _) | (with_reducible refine bel_set ?_ ?_ _) | (with_reducible refine After.out _ ?_ ?_) | (dsimp only; omega) | omega | (simp only [World.size_alloc, World.size_setCell, World.size_drew]; omega))))
  · rcases X2c with ⟨hq, rfl⟩ | ⟨hq, rfl⟩ | ⟨v, hq, hv0, rfl, rfl, hp1⟩ | ⟨hq, rfl, rfl⟩
    · cases hq
      go_wp2_with fail
      with_reducible refine (CUI2.out _ (hR2.out.bel (by (repeat (first | (with_reducible exact Below.refl _ _) | (with_reducible assumption) | (with_reducible refine Later.out _ ?_) | (with_reducible refine bel_alloc ?_ _) | (with_reducible refine bel_drew ?_) | (with_reducible refine bel_drewN ?_ _) | (with_reducible refine bel_set ?_ ?_ _) | (with_reducible refine After.out _ ?_ ?_) | (dsimp only; omega) | omega | (simp only [World.size_alloc, World.size_setCell, World.size_drew]; omega)))))).mono ?_
      rintro e w' ⟨rfl, y12, rfl⟩
      have hsy12 := y12.bel.size
      (try simp only [World.size_alloc, World.size_setCell, World.size_drew] at hsy12)
      go_wp2_with fail
      go_ret
      exact .mk rfl (by (repeat (first | (with_reducible exact Below.refl _ _) | (with_reducible assumption) | (with_reducible refine Later.out _ ?_) | (with_reducible refine bel_alloc ?_ _) | (with_reducible refine bel_drew ?_) | (with_reducible refine bel_drewN ?_ _) | (with_reducible refine bel_set ?_ ?_ _) | (with_reducible refine After.out _ ?_ ?_) | (dsimp only; omega) | omega | (simp only [World.size_alloc, World.size_setCell, World.size_drew]; omega))))
    · cases hq
      obtain ⟨hin, hrom⟩ := X3.out rfl
      go_wp2_with fail
      with_reducible refine (CUI2.out _ (hR2.out.bel (by (repeat (first | (with_reducible exact Below.refl _ _) | (with_reducible assumption) | (with_reducible refine Later.out _ ?_) | (with_reducible refine bel_alloc ?_ _) | (with_reducible refine bel_drew ?_) | (with_reducible refine bel_drewN ?_ _) | (with_reducible refine bel_set ?_ ?_ _) | (with_reducible refine After.out _ ?_ ?_) | (dsimp only; omega) | omega | (simp only [World.size_alloc, World.size_setCell, World.size_drew]; omega)))))).mono ?_
      rintro e w' ⟨rfl, y12, rfl⟩
      have hsy12 := y12.bel.size
      (try simp only [World.size_alloc, World.size_setCell, World.size_drew] at hsy12)
      go_wp2_with fail
      go_loopw [24, 25] (fun ov iv wr => ∃ (i : Nat) (t : ByteArray), i ≤ F.length ∧ iv = .int .i64 i ∧ ov = .string t ∧ t = romL T2 (F.take i) ∧ t.size ≤ 64 * i ∧ ∃ z : Later y12.w, wr = z.w) (fun _ iv _ => F.length - (intOf iv).toNat)
      case atStart => exact ⟨0, _, Nat.zero_le _, rfl, rfl, by rw [romL_zero]; rfl, Nat.zero_le _, ⟨_, Below.refl _ _⟩, rfl⟩
      case round =>
        obtain ⟨i, t, hi, rfl, rfl, ht0, htz, z, rfl⟩ := hrel
        have hzz := z.bel.size
        by_cases hlt : i < F.length
        · have hi1 : (i : Int) < (F.length : Int) := by omega
          obtain ⟨k, hk, e⟩ := inT_at hin hlt
          obtain ⟨bl, ol, rfl, hbl, hcl⟩ := O9.out.row.int hlt
          rw [e] at hcl
          obtain ⟨b, o, ai, ci, rfl, hb, q0, q1, -, -, -⟩ := hR2.out.at_ hk
          have hk1 : (k : Int) < (T2.length : Int) := by omega
          have ht := romL_take hlt e hk
          have hs3 := hsg.out _ (List.getElem_mem hk)
          have hov : t.size + T2[k].rom.size ≤ 9223372036854775807 := by omega
          have hov2 : t.size + T2[k].rom.size < 9223372036854775808 := by omega
          have hb1 : b < y9.w.heap.size := by omega
          have hb2 : b < y10.w.heap.size := by omega
          have hb3 : b < y11.w.heap.size := by omega
          have hb4 : b < y12.w.heap.size := by omega
          have hl1 : bl < y10.w.heap.size := by omega
          have hl2 : bl < y11.w.heap.size := by omega
          have hl4 : bl < y12.w.heap.size := by omega
          have htz2 : t.size + T2[k].rom.size ≤ 64 * (i + 1) := by omega
          rw [← ht0] at ht
          replace ht := Lib.hid ht
          replace ht0 := Lib.hid ht0
          clear e q0
          go_wp2_with fail
          go_roundw
          case rel => exact ⟨i + 1, _, by omega, by go_num, rfl, ht.out.symm, by rw [ByteArray.size_append]; exact htz2, LaterC.mk (by (repeat (first | (with_reducible exact Below.refl _ _) | (with_reducible assumption) | (with_reducible refine Later.out _ ?_) | (with_reducible refine bel_alloc ?_ _) | (with_reducible refine bel_drew ?_) | (with_reducible refine bel_drewN ?_ _) | (with_reducible refine bel_set ?_ ?_ _) | (with_reducible refine After.out _ ?_ ?_) | (dsimp only; omega) | omega | (simp only [World.size_alloc, World.size_setCell, World.size_drew]; omega))))⟩
          case measure => first | (simp [intOf]; done) | (simp [intOf]; omega) | omega
        · obtain rfl : i = F.length := by omega
          rw [List.take_length, hrom] at ht0
          subst ht0
          have hsame : (t.toList != t.toList) = false := by simp
          clear htz
          go_wp2_with fail
          go_ret
          exact .mk rfl (by (repeat (first | (with_reducible exact Below.refl _ _) | (with_reducible assumption) | (with_reducible refine Later.out _ ?_) | (with_reducible refine bel_alloc ?_ _) | (with_reducible refine bel_drew ?_) | (with_reducible refine bel_drewN ?_ _) | (with_reducible refine bel_set ?_ ?_ _) | (with_reducible refine After.out _ ?_ ?_) | (dsimp only; omega) | omega | (simp only [World.size_alloc, World.size_setCell, World.size_drew]; omega))))
    · cases hq
      obtain ⟨hin, hrom⟩ := X3.out rfl
      have hv0i : nn > 0 := hv0
      cases pl
      · skip
        go_wp2_with fail
        with_reducible refine (CUI2.out _ (hR2.out.bel (by (repeat (first | (with_reducible exact Below.refl _ _) | (with_reducible assumption) | (with_reducible refine Later.out _ ?_) | (with_reducible refine bel_alloc ?_ _) | (with_reducible refine bel_drew ?_) | (with_reducible refine bel_drewN ?_ _) | (with_reducible refine bel_set ?_ ?_ _) | (with_reducible refine After.out _ ?_ ?_) | (dsimp only; omega) | omega | (simp only [World.size_alloc, World.size_setCell, World.size_drew]; omega)))))).mono ?_
        rintro e w' ⟨rfl, y12, rfl⟩
        have hsy12 := y12.bel.size
        (try simp only [World.size_alloc, World.size_setCell, World.size_drew] at hsy12)
        go_wp2_with fail
        go_loopw [24, 25] (fun ov iv wr => ∃ (i : Nat) (t : ByteArray), i ≤ F.length ∧ iv = .int .i64 i ∧ ov = .string t ∧ t = romL T2 (F.take i) ∧ t.size ≤ 64 * i ∧ ∃ z : Later y12.w, wr = z.w) (fun _ iv _ => F.length - (intOf iv).toNat)
        case atStart => exact ⟨0, _, Nat.zero_le _, rfl, rfl, by rw [romL_zero]; rfl, Nat.zero_le _, ⟨_, Below.refl _ _⟩, rfl⟩
        case round =>
          obtain ⟨i, t, hi, rfl, rfl, ht0, htz, z, rfl⟩ := hrel
          have hzz := z.bel.size
          by_cases hlt : i < F.length
          · have hi1 : (i : Int) < (F.length : Int) := by omega
            obtain ⟨k, hk, e⟩ := inT_at hin hlt
            obtain ⟨bl, ol, rfl, hbl, hcl⟩ := O9.out.row.int hlt
            rw [e] at hcl
            obtain ⟨b, o, ai, ci, rfl, hb, q0, q1, -, -, -⟩ := hR2.out.at_ hk
            have hk1 : (k : Int) < (T2.length : Int) := by omega
            have ht := romL_take hlt e hk
            have hs3 := hsg.out _ (List.getElem_mem hk)
            have hov : t.size + T2[k].rom.size ≤ 9223372036854775807 := by omega
            have hov2 : t.size + T2[k].rom.size < 9223372036854775808 := by omega
            have hb1 : b < y9.w.heap.size := by omega
            have hb2 : b < y10.w.heap.size := by omega
            have hb3 : b < y11.w.heap.size := by omega
            have hb4 : b < y12.w.heap.size := by omega
            have hl1 : bl < y10.w.heap.size := by omega
            have hl2 : bl < y11.w.heap.size := by omega
            have hl4 : bl < y12.w.heap.size := by omega
            have htz2 : t.size + T2[k].rom.size ≤ 64 * (i + 1) := by omega
            rw [← ht0] at ht
            replace ht := Lib.hid ht
            replace ht0 := Lib.hid ht0
            clear e q0
            go_wp2_with fail
            go_roundw
            case rel => exact ⟨i + 1, _, by omega, by go_num, rfl, ht.out.symm, by rw [ByteArray.size_append]; exact htz2, LaterC.mk (by (repeat (first | (with_reducible exact Below.refl _ _) | (with_reducible assumption) | (with_reducible refine Later.out _ ?_) | (with_reducible refine bel_alloc ?_ _) | (with_reducible refine bel_drew ?_) | (with_reducible refine bel_drewN ?_ _) | (with_reducible refine bel_set ?_ ?_ _) | (with_reducible refine After.out _ ?_ ?_) | (dsimp only; omega) | omega | (simp only [World.size_alloc, World.size_setCell, World.size_drew]; omega))))⟩
            case measure => first | (simp [intOf]; done) | (simp [intOf]; omega) | omega
          · obtain rfl : i = F.length := by omega
            rw [List.take_length, hrom] at ht0
            subst ht0
            have hsame : (t.toList != t.toList) = false := by simp
            clear htz
            go_wp2_with fail
            go_ret
            exact .mk rfl (by (repeat (first | (with_reducible exact Below.refl _ _) | (with_reducible assumption) | (with_reducible refine Later.out _ ?_) | (with_reducible refine bel_alloc ?_ _) | (with_reducible refine bel_drew ?_) | (with_reducible refine bel_drewN ?_ _) | (with_reducible refine bel_set ?_ ?_ _) | (with_reducible refine After.out _ ?_ ?_) | (dsimp only; omega) | omega | (simp only [World.size_alloc, World.size_setCell, World.size_drew]; omega))))
      · have hle := hp1 rfl
        have hle2 : ¬ (1 : Int) < nn := by omega
        go_wp2_with fail
        with_reducible refine (CUI2.out _ (hR2.out.bel (by (repeat (first | (with_reducible exact Below.refl _ _) | (with_reducible assumption) | (with_reducible refine Later.out _ ?_) | (with_reducible refine bel_alloc ?_ _) | (with_reducible refine bel_drew ?_) | (with_reducible refine bel_drewN ?_ _) | (with_reducible refine bel_set ?_ ?_ _) | (with_reducible refine After.out _ ?_ ?_) | (dsimp only; omega) | omega | (simp only [World.size_alloc, World.size_setCell, World.size_drew]; omega)))))).mono ?_
        rintro e w' ⟨rfl, y12, rfl⟩
        have hsy12 := y12.bel.size
        (try simp only [World.size_alloc, World.size_setCell, World.size_drew] at hsy12)
        go_wp2_with fail
        go_loopw [24, 25] (fun ov iv wr => ∃ (i : Nat) (t : ByteArray), i ≤ F.length ∧ iv = .int .i64 i ∧ ov = .string t ∧ t = romL T2 (F.take i) ∧ t.size ≤ 64 * i ∧ ∃ z : Later y12.w, wr = z.w) (fun _ iv _ => F.length - (intOf iv).toNat)
        case atStart => exact ⟨0, _, Nat.zero_le _, rfl, rfl, by rw [romL_zero]; rfl, Nat.zero_le _, ⟨_, Below.refl _ _⟩, rfl⟩
        case round =>
          obtain ⟨i, t, hi, rfl, rfl, ht0, htz, z, rfl⟩ := hrel
          have hzz := z.bel.size
          by_cases hlt : i < F.length
          · have hi1 : (i : Int) < (F.length : Int) := by omega
            obtain ⟨k, hk, e⟩ := inT_at hin hlt
            obtain ⟨bl, ol, rfl, hbl, hcl⟩ := O9.out.row.int hlt
            rw [e] at hcl
            obtain ⟨b, o, ai, ci, rfl, hb, q0, q1, -, -, -⟩ := hR2.out.at_ hk
            have hk1 : (k : Int) < (T2.length : Int) := by omega
            have ht := romL_take hlt e hk
            have hs3 := hsg.out _ (List.getElem_mem hk)
            have hov : t.size + T2[k].rom.size ≤ 9223372036854775807 := by omega
            have hov2 : t.size + T2[k].rom.size < 9223372036854775808 := by omega
            have hb1 : b < y9.w.heap.size := by omega
            have hb2 : b < y10.w.heap.size := by omega
            have hb3 : b < y11.w.heap.size := by omega
            have hb4 : b < y12.w.heap.size := by omega
            have hl1 : bl < y10.w.heap.size := by omega
            have hl2 : bl < y11.w.heap.size := by omega
            have hl4 : bl < y12.w.heap.size := by omega
            have htz2 : t.size + T2[k].rom.size ≤ 64 * (i + 1) := by omega
            rw [← ht0] at ht
            replace ht := Lib.hid ht
            replace ht0 := Lib.hid ht0
            clear e q0
            go_wp2_with fail
            go_roundw
            case rel => exact ⟨i + 1, _, by omega, by go_num, rfl, ht.out.symm, by rw [ByteArray.size_append]; exact htz2, LaterC.mk (by (repeat (first | (with_reducible exact Below.refl _ _) | (with_reducible assumption) | (with_reducible refine Later.out _ ?_) | (with_reducible refine bel_alloc ?_ _) | (with_reducible refine bel_drew ?_) | (with_reducible refine bel_drewN ?_ _) | (with_reducible refine bel_set ?_ ?_ _) | (with_reducible refine After.out _ ?_ ?_) | (dsimp only; omega) | omega | (simp only [World.size_alloc, World.size_setCell, World.size_drew]; omega))))⟩
            case measure => first | (simp [intOf]; done) | (simp [intOf]; omega) | omega
          · obtain rfl : i = F.length := by omega
            rw [List.take_length, hrom] at ht0
            subst ht0
            have hsame : (t.toList != t.toList) = false := by simp
            clear htz
            go_wp2_with fail
            go_ret
            exact .mk rfl (by (repeat (first | (with_reducible exact Below.refl _ _) | (with_reducible assumption) | (with_reducible refine Later.out _ ?_) | (with_reducible refine bel_alloc ?_ _) | (with_reducible refine bel_drew ?_) | (with_reducible refine bel_drewN ?_ _) | (with_reducible refine bel_set ?_ ?_ _) | (with_reducible refine After.out _ ?_ ?_) | (dsimp only; omega) | omega | (simp only [World.size_alloc, World.size_setCell, World.size_drew]; omega))))
    · cases hq
      cases pl
      · skip
        go_wp2_with fail
        with_reducible refine (CUI2.out _ (hR2.out.bel (by (repeat (first | (with_reducible exact Below.refl _ _) | (with_reducible assumption) | (with_reducible refine Later.out _ ?_) | (with_reducible refine bel_alloc ?_ _) | (with_reducible refine bel_drew ?_) | (with_reducible refine bel_drewN ?_ _) | (with_reducible refine bel_set ?_ ?_ _) | (with_reducible refine After.out _ ?_ ?_) | (dsimp only; omega) | omega | (simp only [World.size_alloc, World.size_setCell, World.size_drew]; omega)))))).mono ?_
        rintro e w' ⟨rfl, y12, rfl⟩
        have hsy12 := y12.bel.size
        (try simp only [World.size_alloc, World.size_setCell, World.size_drew] at hsy12)
        go_wp2_with fail
        go_ret
        exact .mk rfl (by (repeat (first | (with_reducible exact Below.refl _ _) | (with_reducible assumption) | (with_reducible refine Later.out _ ?_) | (with_reducible refine bel_alloc ?_ _) | (with_reducible refine bel_drew ?_) | (with_reducible refine bel_drewN ?_ _) | (with_reducible refine bel_set ?_ ?_ _) | (with_reducible refine After.out _ ?_ ?_) | (dsimp only; omega) | omega | (simp only [World.size_alloc, World.size_setCell, World.size_drew]; omega))))
      · skip
        go_wp2_with fail
        with_reducible refine (CUI2.out _ (hR2.out.bel (by (repeat (first | (with_reducible exact Below.refl _ _) | (with_reducible assumption) | (with_reducible refine Later.out _ ?_) | (with_reducible refine bel_alloc ?_ _) | (with_reducible refine bel_drew ?_) | (with_reducible refine bel_drewN ?_ _) | (with_reducible refine bel_set ?_ ?_ _) | (with_reducible refine After.out _ ?_ ?_) | (dsimp only; omega) | omega | (simp only [World.size_alloc, World.size_setCell, World.size_drew]; omega)))))).mono ?_
        rintro e w' ⟨rfl, y12, rfl⟩
        have hsy12 := y12.bel.size
        (try simp only [World.size_alloc, World.size_setCell, World.size_drew] at hsy12)
        go_wp2_with fail
        go_ret
        exact .mk rfl (by (repeat (first | (with_reducible exact Below.refl _ _) | (with_reducible assumption) | (with_reducible refine Later.out _ ?_) | (with_reducible refine bel_alloc ?_ _) | (with_reducible refine bel_drew ?_) | (with_reducible refine bel_drewN ?_ _) | (with_reducible refine bel_set ?_ ?_ _) | (with_reducible refine After.out _ ?_ ?_) | (dsimp only; omega) | omega | (simp only [World.size_alloc, World.size_setCell, World.size_drew]; omega))))
  · replace hN := Lib.hid hN
    rcases X2c with ⟨hq, rfl⟩ | ⟨hq, rfl⟩ | ⟨v, hq, hv0, rfl, rfl, hp1⟩ | ⟨hq, rfl, rfl⟩
    · cases hq
      go_wp2_with fail
      with_reducible refine (CUI2.out _ (hR2.out.bel (by (repeat (first | (with_reducible exact Below.refl _ _) | (with_reducible assumption) | (with_reducible refine Later.out _ ?_) | (with_reducible refine bel_alloc ?_ _) | (with_reducible refine bel_drew ?_) | (with_reducible refine bel_drewN ?_ _) | (with_reducible refine bel_set ?_ ?_ _) | (with_reducible refine After.out _ ?_ ?_) | (dsimp only; omega) | omega | (simp only [World.size_alloc, World.size_setCell, World.size_drew]; omega)))))).mono ?_
      rintro e w' ⟨rfl, y12, rfl⟩
      have hsy12 := y12.bel.size
      (try simp only [World.size_alloc, World.size_setCell, World.size_drew] at hsy12)
      by_cases h48 : tt.size ≤ 48
      · have h48i : ¬ (48 : Int) < (tt.size : Int) := by omega
        obtain ⟨v9, hv9, hv1⟩ := hN.out h48
        have CC := Lib.hid (CN1.out v9 hv9 h48)
        go_wp2_with fail
        with_reducible refine (CC.out _ (hR1.out.bel (by (repeat (first | (with_reducible exact Below.refl _ _) | (with_reducible assumption) | (with_reducible refine Later.out _ ?_) | (with_reducible refine bel_alloc ?_ _) | (with_reducible refine bel_drew ?_) | (with_reducible refine bel_drewN ?_ _) | (with_reducible refine bel_set ?_ ?_ _) | (with_reducible refine After.out _ ?_ ?_) | (dsimp only; omega) | omega | (simp only [World.size_alloc, World.size_setCell, World.size_drew]; omega)))))).mono ?_
        rintro e w' ⟨rfl, y30, rfl⟩
        have hsy30 := y30.bel.size
        (try simp only [World.size_alloc, World.size_setCell, World.size_drew] at hsy30)
        go_wp2_with fail
        go_ret
        exact .mk rfl (by (repeat (first | (with_reducible exact Below.refl _ _) | (with_reducible assumption) | (with_reducible refine Later.out _ ?_) | (with_reducible refine bel_alloc ?_ _) | (with_reducible refine bel_drew ?_) | (with_reducible refine bel_drewN ?_ _) | (with_reducible refine bel_set ?_ ?_ _) | (with_reducible refine After.out _ ?_ ?_) | (dsimp only; omega) | omega | (simp only [World.size_alloc, World.size_setCell, World.size_drew]; omega))))
      · have h48i : (48 : Int) < (tt.size : Int) := by omega
        go_wp2_with fail
        go_ret
        exact .mk rfl (by (repeat (first | (with_reducible exact Below.refl _ _) | (with_reducible assumption) | (with_reducible refine Later.out _ ?_) | (with_reducible refine bel_alloc ?_ _) | (with_reducible refine bel_drew ?_) | (with_reducible refine bel_drewN ?_ _) | (with_reducible refine bel_set ?_ ?_ _) | (with_reducible refine After.out _ ?_ ?_) | (dsimp only; omega) | omega | (simp only [World.size_alloc, World.size_setCell, World.size_drew]; omega))))
    · cases hq
      obtain ⟨hin, hrom⟩ := X3.out rfl
      go_wp2_with fail
      with_reducible refine (CUI2.out _ (hR2.out.bel (by (repeat (first | (with_reducible exact Below.refl _ _) | (with_reducible assumption) | (with_reducible refine Later.out _ ?_) | (with_reducible refine bel_alloc ?_ _) | (with_reducible refine bel_drew ?_) | (with_reducible refine bel_drewN ?_ _) | (with_reducible refine bel_set ?_ ?_ _) | (with_reducible refine After.out _ ?_ ?_) | (dsimp only; omega) | omega | (simp only [World.size_alloc, World.size_setCell, World.size_drew]; omega)))))).mono ?_
      rintro e w' ⟨rfl, y12, rfl⟩
      have hsy12 := y12.bel.size
      (try simp only [World.size_alloc, World.size_setCell, World.size_drew] at hsy12)
      go_wp2_with fail
      go_loopw [24, 25] (fun ov iv wr => ∃ (i : Nat) (t : ByteArray), i ≤ F.length ∧ iv = .int .i64 i ∧ ov = .string t ∧ t = romL T2 (F.take i) ∧ t.size ≤ 64 * i ∧ ∃ z : Later y12.w, wr = z.w) (fun _ iv _ => F.length - (intOf iv).toNat)
      case atStart => exact ⟨0, _, Nat.zero_le _, rfl, rfl, by rw [romL_zero]; rfl, Nat.zero_le _, ⟨_, Below.refl _ _⟩, rfl⟩
      case round =>
        obtain ⟨i, t, hi, rfl, rfl, ht0, htz, z, rfl⟩ := hrel
        have hzz := z.bel.size
        by_cases hlt : i < F.length
        · have hi1 : (i : Int) < (F.length : Int) := by omega
          obtain ⟨k, hk, e⟩ := inT_at hin hlt
          obtain ⟨bl, ol, rfl, hbl, hcl⟩ := O9.out.row.int hlt
          rw [e] at hcl
          obtain ⟨b, o, ai, ci, rfl, hb, q0, q1, -, -, -⟩ := hR2.out.at_ hk
          have hk1 : (k : Int) < (T2.length : Int) := by omega
          have ht := romL_take hlt e hk
          have hs3 := hsg.out _ (List.getElem_mem hk)
          have hov : t.size + T2[k].rom.size ≤ 9223372036854775807 := by omega
          have hov2 : t.size + T2[k].rom.size < 9223372036854775808 := by omega
          have hb1 : b < y9.w.heap.size := by omega
          have hb2 : b < y10.w.heap.size := by omega
          have hb3 : b < y11.w.heap.size := by omega
          have hb4 : b < y12.w.heap.size := by omega
          have hl1 : bl < y10.w.heap.size := by omega
          have hl2 : bl < y11.w.heap.size := by omega
          have hl4 : bl < y12.w.heap.size := by omega
          have htz2 : t.size + T2[k].rom.size ≤ 64 * (i + 1) := by omega
          rw [← ht0] at ht
          replace ht := Lib.hid ht
          replace ht0 := Lib.hid ht0
          clear e q0
          go_wp2_with fail
          go_roundw
          case rel => exact ⟨i + 1, _, by omega, by go_num, rfl, ht.out.symm, by rw [ByteArray.size_append]; exact htz2, LaterC.mk (by (repeat (first | (with_reducible exact Below.refl _ _) | (with_reducible assumption) | (with_reducible refine Later.out _ ?_) | (with_reducible refine bel_alloc ?_ _) | (with_reducible refine bel_drew ?_) | (with_reducible refine bel_drewN ?_ _) | (with_reducible refine bel_set ?_ ?_ _) | (with_reducible refine After.out _ ?_ ?_) | (dsimp only; omega) | omega | (simp only [World.size_alloc, World.size_setCell, World.size_drew]; omega))))⟩
          case measure => first | (simp [intOf]; done) | (simp [intOf]; omega) | omega
        · obtain rfl : i = F.length := by omega
          rw [List.take_length, hrom] at ht0
          subst ht0
          have hsame : (t.toList != t.toList) = false := by simp
          clear htz
          by_cases h48 : tt.size ≤ 48
          · have h48i : ¬ (48 : Int) < (tt.size : Int) := by omega
            obtain ⟨v9, hv9, hv1⟩ := hN.out h48
            have CC := Lib.hid (CN1.out v9 hv9 h48)
            go_wp2_with fail
            with_reducible refine (CC.out _ (hR1.out.bel (by (repeat (first | (with_reducible exact Below.refl _ _) | (with_reducible assumption) | (with_reducible refine Later.out _ ?_) | (with_reducible refine bel_alloc ?_ _) | (with_reducible refine bel_drew ?_) | (with_reducible refine bel_drewN ?_ _) | (with_reducible refine bel_set ?_ ?_ _) | (with_reducible refine After.out _ ?_ ?_) | (dsimp only; omega) | omega | (simp only [World.size_alloc, World.size_setCell, World.size_drew]; omega)))))).mono ?_
            rintro e w' ⟨rfl, y30, rfl⟩
            have hsy30 := y30.bel.size
            (try simp only [World.size_alloc, World.size_setCell, World.size_drew] at hsy30)
            go_wp2_with fail
            go_ret
            exact .mk rfl (by (repeat (first | (with_reducible exact Below.refl _ _) | (with_reducible assumption) | (with_reducible refine Later.out _ ?_) | (with_reducible refine bel_alloc ?_ _) | (with_reducible refine bel_drew ?_) | (with_reducible refine bel_drewN ?_ _) | (with_reducible refine bel_set ?_ ?_ _) | (with_reducible refine After.out _ ?_ ?_) | (dsimp only; omega) | omega | (simp only [World.size_alloc, World.size_setCell, World.size_drew]; omega))))
          · have h48i : (48 : Int) < (tt.size : Int) := by omega
            go_wp2_with fail
            go_ret
            exact .mk rfl (by (repeat (first | (with_reducible exact Below.refl _ _) | (with_reducible assumption) | (with_reducible refine Later.out _ ?_) | (with_reducible refine bel_alloc ?_ _) | (with_reducible refine bel_drew ?_) | (with_reducible refine bel_drewN ?_ _) | (with_reducible refine bel_set ?_ ?_ _) | (with_reducible refine After.out _ ?_ ?_) | (dsimp only; omega) | omega | (simp only [World.size_alloc, World.size_setCell, World.size_drew]; omega))))
    · cases hq
      obtain ⟨hin, hrom⟩ := X3.out rfl
      have hv0i : nn > 0 := hv0
      cases pl
      · skip
        go_wp2_with fail
        with_reducible refine (CUI2.out _ (hR2.out.bel (by (repeat (first | (with_reducible exact Below.refl _ _) | (with_reducible assumption) | (with_reducible refine Later.out _ ?_) | (with_reducible refine bel_alloc ?_ _) | (with_reducible refine bel_drew ?_) | (with_reducible refine bel_drewN ?_ _) | (with_reducible refine bel_set ?_ ?_ _) | (with_reducible refine After.out _ ?_ ?_) | (dsimp only; omega) | omega | (simp only [World.size_alloc, World.size_setCell, World.size_drew]; omega)))))).mono ?_
        rintro e w' ⟨rfl, y12, rfl⟩
        have hsy12 := y12.bel.size
        (try simp only [World.size_alloc, World.size_setCell, World.size_drew] at hsy12)
        go_wp2_with fail
        go_loopw [24, 25] (fun ov iv wr => ∃ (i : Nat) (t : ByteArray), i ≤ F.length ∧ iv = .int .i64 i ∧ ov = .string t ∧ t = romL T2 (F.take i) ∧ t.size ≤ 64 * i ∧ ∃ z : Later y12.w, wr = z.w) (fun _ iv _ => F.length - (intOf iv).toNat)
        case atStart => exact ⟨0, _, Nat.zero_le _, rfl, rfl, by rw [romL_zero]; rfl, Nat.zero_le _, ⟨_, Below.refl _ _⟩, rfl⟩
        case round =>
          obtain ⟨i, t, hi, rfl, rfl, ht0, htz, z, rfl⟩ := hrel
          have hzz := z.bel.size
          by_cases hlt : i < F.length
          · have hi1 : (i : Int) < (F.length : Int) := by omega
            obtain ⟨k, hk, e⟩ := inT_at hin hlt
            obtain ⟨bl, ol, rfl, hbl, hcl⟩ := O9.out.row.int hlt
            rw [e] at hcl
            obtain ⟨b, o, ai, ci, rfl, hb, q0, q1, -, -, -⟩ := hR2.out.at_ hk
            have hk1 : (k : Int) < (T2.length : Int) := by omega
            have ht := romL_take hlt e hk
            have hs3 := hsg.out _ (List.getElem_mem hk)
            have hov : t.size + T2[k].rom.size ≤ 9223372036854775807 := by omega
            have hov2 : t.size + T2[k].rom.size < 9223372036854775808 := by omega
            have hb1 : b < y9.w.heap.size := by omega
            have hb2 : b < y10.w.heap.size := by omega
            have hb3 : b < y11.w.heap.size := by omega
            have hb4 : b < y12.w.heap.size := by omega
            have hl1 : bl < y10.w.heap.size := by omega
            have hl2 : bl < y11.w.heap.size := by omega
            have hl4 : bl < y12.w.heap.size := by omega
            have htz2 : t.size + T2[k].rom.size ≤ 64 * (i + 1) := by omega
            rw [← ht0] at ht
            replace ht := Lib.hid ht
            replace ht0 := Lib.hid ht0
            clear e q0
            go_wp2_with fail
            go_roundw
            case rel => exact ⟨i + 1, _, by omega, by go_num, rfl, ht.out.symm, by rw [ByteArray.size_append]; exact htz2, LaterC.mk (by (repeat (first | (with_reducible exact Below.refl _ _) | (with_reducible assumption) | (with_reducible refine Later.out _ ?_) | (with_reducible refine bel_alloc ?_ _) | (with_reducible refine bel_drew ?_) | (with_reducible refine bel_drewN ?_ _) | (with_reducible refine bel_set ?_ ?_ _) | (with_reducible refine After.out _ ?_ ?_) | (dsimp only; omega) | omega | (simp only [World.size_alloc, World.size_setCell, World.size_drew]; omega))))⟩
            case measure => first | (simp [intOf]; done) | (simp [intOf]; omega) | omega
          · obtain rfl : i = F.length := by omega
            rw [List.take_length, hrom] at ht0
            subst ht0
            have hsame : (t.toList != t.toList) = false := by simp
            clear htz
            by_cases h48 : tt.size ≤ 48
            · have h48i : ¬ (48 : Int) < (tt.size : Int) := by omega
              obtain ⟨v9, hv9, hv1⟩ := hN.out h48
              have CC := Lib.hid (CN1.out v9 hv9 h48)
              go_wp2_with fail
              with_reducible refine (CC.out _ (hR1.out.bel (by (repeat (first | (with_reducible exact Below.refl _ _) | (with_reducible assumption) | (with_reducible refine Later.out _ ?_) | (with_reducible refine bel_alloc ?_ _) | (with_reducible refine bel_drew ?_) | (with_reducible refine bel_drewN ?_ _) | (with_reducible refine bel_set ?_ ?_ _) | (with_reducible refine After.out _ ?_ ?_) | (dsimp only; omega) | omega | (simp only [World.size_alloc, World.size_setCell, World.size_drew]; omega)))))).mono ?_
              rintro e w' ⟨rfl, y30, rfl⟩
              have hsy30 := y30.bel.size
              (try simp only [World.size_alloc, World.size_setCell, World.size_drew] at hsy30)
              go_wp2_with fail
              go_ret
              exact .mk rfl (by (repeat (first | (with_reducible exact Below.refl _ _) | (with_reducible assumption) | (with_reducible refine Later.out _ ?_) | (with_reducible refine bel_alloc ?_ _) | (with_reducible refine bel_drew ?_) | (with_reducible refine bel_drewN ?_ _) | (with_reducible refine bel_set ?_ ?_ _) | (with_reducible refine After.out _ ?_ ?_) | (dsimp only; omega) | omega | (simp only [World.size_alloc, World.size_setCell, World.size_drew]; omega))))
            · have h48i : (48 : Int) < (tt.size : Int) := by omega
              go_wp2_with fail
              go_ret
              exact .mk rfl (by (repeat (first | (with_reducible exact Below.refl _ _) | (with_reducible assumption) | (with_reducible refine Later.out _ ?_) | (with_reducible refine bel_alloc ?_ _) | (with_reducible refine bel_drew ?_) | (with_reducible refine bel_drewN ?_ _) | (with_reducible refine bel_set ?_ ?_ _) | (with_reducible refine After.out _ ?_ ?_) | (dsimp only; omega) | omega | (simp only [World.size_alloc, World.size_setCell, World.size_drew]; omega))))
      · have hle := hp1 rfl
        have hle2 : ¬ (1 : Int) < nn := by omega
        go_wp2_with fail
        with_reducible refine (CUI2.out _ (hR2.out.bel (by (repeat (first | (with_reducible exact Below.refl _ _) | (with_reducible assumption) | (with_reducible refine Later.out _ ?_) | (with_reducible refine bel_alloc ?_ _) | (with_reducible refine bel_drew ?_) | (with_reducible refine bel_drewN ?_ _) | (with_reducible refine bel_set ?_ ?_ _) | (with_reducible refine After.out _ ?_ ?_) | (dsimp only; omega) | omega | (simp only [World.size_alloc, World.size_setCell, World.size_drew]; omega)))))).mono ?_
        rintro e w' ⟨rfl, y12, rfl⟩
        have hsy12 := y12.bel.size
        (try simp only [World.size_alloc, World.size_setCell, World.size_drew] at hsy12)
        go_wp2_with fail
        go_loopw [24, 25] (fun ov iv wr => ∃ (i : Nat) (t : ByteArray), i ≤ F.length ∧ iv = .int .i64 i ∧ ov = .string t ∧ t = romL T2 (F.take i) ∧ t.size ≤ 64 * i ∧ ∃ z : Later y12.w, wr = z.w) (fun _ iv _ => F.length - (intOf iv).toNat)
        case atStart => exact ⟨0, _, Nat.zero_le _, rfl, rfl, by rw [romL_zero]; rfl, Nat.zero_le _, ⟨_, Below.refl _ _⟩, rfl⟩
        case round =>
          obtain ⟨i, t, hi, rfl, rfl, ht0, htz, z, rfl⟩ := hrel
          have hzz := z.bel.size
          by_cases hlt : i < F.length
          · have hi1 : (i : Int) < (F.length : Int) := by omega
            obtain ⟨k, hk, e⟩ := inT_at hin hlt
            obtain ⟨bl, ol, rfl, hbl, hcl⟩ := O9.out.row.int hlt
            rw [e] at hcl
            obtain ⟨b, o, ai, ci, rfl, hb, q0, q1, -, -, -⟩ := hR2.out.at_ hk
            have hk1 : (k : Int) < (T2.length : Int) := by omega
            have ht := romL_take hlt e hk
            have hs3 := hsg.out _ (List.getElem_mem hk)
            have hov : t.size + T2[k].rom.size ≤ 9223372036854775807 := by omega
            have hov2 : t.size + T2[k].rom.size < 9223372036854775808 := by omega
            have hb1 : b < y9.w.heap.size := by omega
            have hb2 : b < y10.w.heap.size := by omega
            have hb3 : b < y11.w.heap.size := by omega
            have hb4 : b < y12.w.heap.size := by omega
            have hl1 : bl < y10.w.heap.size := by omega
            have hl2 : bl < y11.w.heap.size := by omega
            have hl4 : bl < y12.w.heap.size := by omega
            have htz2 : t.size + T2[k].rom.size ≤ 64 * (i + 1) := by omega
            rw [← ht0] at ht
            replace ht := Lib.hid ht
            replace ht0 := Lib.hid ht0
            clear e q0
            go_wp2_with fail
            go_roundw
            case rel => exact ⟨i + 1, _, by omega, by go_num, rfl, ht.out.symm, by rw [ByteArray.size_append]; exact htz2, LaterC.mk (by (repeat (first | (with_reducible exact Below.refl _ _) | (with_reducible assumption) | (with_reducible refine Later.out _ ?_) | (with_reducible refine bel_alloc ?_ _) | (with_reducible refine bel_drew ?_) | (with_reducible refine bel_drewN ?_ _) | (with_reducible refine bel_set ?_ ?_ _) | (with_reducible refine After.out _ ?_ ?_) | (dsimp only; omega) | omega | (simp only [World.size_alloc, World.size_setCell, World.size_drew]; omega))))⟩
            case measure => first | (simp [intOf]; done) | (simp [intOf]; omega) | omega
          · obtain rfl : i = F.length := by omega
            rw [List.take_length, hrom] at ht0
            subst ht0
            have hsame : (t.toList != t.toList) = false := by simp
            clear htz
            by_cases h48 : tt.size ≤ 48
            · have h48i : ¬ (48 : Int) < (tt.size : Int) := by omega
              obtain ⟨v9, hv9, hv1⟩ := hN.out h48
              have CC := Lib.hid (CN1.out v9 hv9 h48)
              go_wp2_with fail
              with_reducible refine (CC.out _ (hR1.out.bel (by (repeat (first | (with_reducible exact Below.refl _ _) | (with_reducible assumption) | (with_reducible refine Later.out _ ?_) | (with_reducible refine bel_alloc ?_ _) | (with_reducible refine bel_drew ?_) | (with_reducible refine bel_drewN ?_ _) | (with_reducible refine bel_set ?_ ?_ _) | (with_reducible refine After.out _ ?_ ?_) | (dsimp only; omega) | omega | (simp only [World.size_alloc, World.size_setCell, World.size_drew]; omega)))))).mono ?_
              rintro e w' ⟨rfl, y30, rfl⟩
              have hsy30 := y30.bel.size
              (try simp only [World.size_alloc, World.size_setCell, World.size_drew] at hsy30)
              go_wp2_with fail
              go_ret
              exact .mk rfl (by (repeat (first | (with_reducible exact Below.refl _ _) | (with_reducible assumption) | (with_reducible refine Later.out _ ?_) | (with_reducible refine bel_alloc ?_ _) | (with_reducible refine bel_drew ?_) | (with_reducible refine bel_drewN ?_ _) | (with_reducible refine bel_set ?_ ?_ _) | (with_reducible refine After.out _ ?_ ?_) | (dsimp only; omega) | omega | (simp only [World.size_alloc, World.size_setCell, World.size_drew]; omega))))
            · have h48i : (48 : Int) < (tt.size : Int) := by omega
              go_wp2_with fail
              go_ret
              exact .mk rfl (by (repeat (first | (with_reducible exact Below.refl _ _) | (with_reducible assumption) | (with_reducible refine Later.out _ ?_) | (with_reducible refine bel_alloc ?_ _) | (with_reducible refine bel_drew ?_) | (with_reducible refine bel_drewN ?_ _) | (with_reducible refine bel_set ?_ ?_ _) | (with_reducible refine After.out _ ?_ ?_) | (dsimp only; omega) | omega | (simp only [World.size_alloc, World.size_setCell, World.size_drew]; omega))))
    · cases hq
      cases pl
      · skip
        go_wp2_with fail
        with_reducible refine (CUI2.out _ (hR2.out.bel (by (repeat (first | (with_reducible exact Below.refl _ _) | (with_reducible assumption) | (with_reducible refine Later.out _ ?_) | (with_reducible refine bel_alloc ?_ _) | (with_reducible refine bel_drew ?_) | (with_reducible refine bel_drewN ?_ _) | (with_reducible refine bel_set ?_ ?_ _) | (with_reducible refine After.out _ ?_ ?_) | (dsimp only; omega) | omega | (simp only [World.size_alloc, World.size_setCell, World.size_drew]; omega)))))).mono ?_
        rintro e w' ⟨rfl, y12, rfl⟩
        have hsy12 := y12.bel.size
        (try simp only [World.size_alloc, World.size_setCell, World.size_drew] at hsy12)
        by_cases h48 : tt.size ≤ 48
        · have h48i : ¬ (48 : Int) < (tt.size : Int) := by omega
          obtain ⟨v9, hv9, hv1⟩ := hN.out h48
          have CC := Lib.hid (CN1.out v9 hv9 h48)
          go_wp2_with fail
          with_reducible refine (CC.out _ (hR1.out.bel (by (repeat (first | (with_reducible exact Below.refl _ _) | (with_reducible assumption) | (with_reducible refine Later.out _ ?_) | (with_reducible refine bel_alloc ?_ _) | (with_reducible refine bel_drew ?_) | (with_reducible refine bel_drewN ?_ _) | (with_reducible refine bel_set ?_ ?_ _) | (with_reducible refine After.out _ ?_ ?_) | (dsimp only; omega) | omega | (simp only [World.size_alloc, World.size_setCell, World.size_drew]; omega)))))).mono ?_
          rintro e w' ⟨rfl, y30, rfl⟩
          have hsy30 := y30.bel.size
          (try simp only [World.size_alloc, World.size_setCell, World.size_drew] at hsy30)
          go_wp2_with fail
          go_ret
          exact .mk rfl (by (repeat (first | (with_reducible exact Below.refl _ _) | (with_reducible assumption) | (with_reducible refine Later.out _ ?_) | (with_reducible refine bel_alloc ?_ _) | (with_reducible refine bel_drew ?_) | (with_reducible refine bel_drewN ?_ _) | (with_reducible refine bel_set ?_ ?_ _) | (with_reducible refine After.out _ ?_ ?_) | (dsimp only; omega) | omega | (simp only [World.size_alloc, World.size_setCell, World.size_drew]; omega))))
        · have h48i : (48 : Int) < (tt.size : Int) := by omega
          go_wp2_with fail
          go_ret
          exact .mk rfl (by (repeat (first | (with_reducible exact Below.refl _ _) | (with_reducible assumption) | (with_reducible refine Later.out _ ?_) | (with_reducible refine bel_alloc ?_ _) | (with_reducible refine bel_drew ?_) | (with_reducible refine bel_drewN ?_ _) | (with_reducible refine bel_set ?_ ?_ _) | (with_reducible refine After.out _ ?_ ?_) | (dsimp only; omega) | omega | (simp only [World.size_alloc, World.size_setCell, World.size_drew]; omega))))
      · skip
        go_wp2_with fail
        with_reducible refine (CUI2.out _ (hR2.out.bel (by (repeat (first | (with_reducible exact Below.refl _ _) | (with_reducible assumption) | (with_reducible refine Later.out _ ?_) | (with_reducible refine bel_alloc ?_ _) | (with_reducible refine bel_drew ?_) | (with_reducible refine bel_drewN ?_ _) | (with_reducible refine bel_set ?_ ?_ _) | (with_reducible refine After.out _ ?_ ?_) | (dsimp only; omega) | omega | (simp only [World.size_alloc, World.size_setCell, World.size_drew]; omega)))))).mono ?_
        rintro e w' ⟨rfl, y12, rfl⟩
        have hsy12 := y12.bel.size
        (try simp only [World.size_alloc, World.size_setCell, World.size_drew] at hsy12)
        by_cases h48 : tt.size ≤ 48
        · have h48i : ¬ (48 : Int) < (tt.size : Int) := by omega
          obtain ⟨v9, hv9, hv1⟩ := hN.out h48
          have CC := Lib.hid (CN1.out v9 hv9 h48)
          go_wp2_with fail
          with_reducible refine (CC.out _ (hR1.out.bel (by (repeat (first | (with_reducible exact Below.refl _ _) | (with_reducible assumption) | (with_reducible refine Later.out _ ?_) | (with_reducible refine bel_alloc ?_ _) | (with_reducible refine bel_drew ?_) | (with_reducible refine bel_drewN ?_ _) | (with_reducible refine bel_set ?_ ?_ _) | (with_reducible refine After.out _ ?_ ?_) | (dsimp only; omega) | omega | (simp only [World.size_alloc, World.size_setCell, World.size_drew]; omega)))))).mono ?_
          rintro e w' ⟨rfl, y30, rfl⟩
          have hsy30 := y30.bel.size
          (try simp only [World.size_alloc, World.size_setCell, World.size_drew] at hsy30)
          go_wp2_with fail
          go_ret
          exact .mk rfl (by (repeat (first | (with_reducible exact Below.refl _ _) | (with_reducible assumption) | (with_reducible refine Later.out _ ?_) | (with_reducible refine bel_alloc ?_ _) | (with_reducible refine bel_drew ?_) | (with_reducible refine bel_drewN ?_ _) | (with_reducible refine bel_set ?_ ?_ _) | (with_reducible refine After.out _ ?_ ?_) | (dsimp only; omega) | omega | (simp only [World.size_alloc, World.size_setCell, World.size_drew]; omega))))
        · have h48i : (48 : Int) < (tt.size : Int) := by omega
          go_wp2_with fail
          go_ret
          exact .mk rfl (by (repeat (first | (with_reducible exact Below.refl _ _) | (with_reducible assumption) | (with_reducible refine Later.out _ ?_) | (with_reducible refine bel_alloc ?_ _) | (with_reducible refine bel_drew ?_) | (with_reducible refine bel_drewN ?_ _) | (with_reducible refine bel_set ?_ ?_ _) | (with_reducible refine After.out _ ?_ ?_) | (dsimp only; omega) | omega | (simp only [World.size_alloc, World.size_setCell, World.size_drew]; omega))))
end Go.Proofs.YtokbolgaokbdcaaDoor

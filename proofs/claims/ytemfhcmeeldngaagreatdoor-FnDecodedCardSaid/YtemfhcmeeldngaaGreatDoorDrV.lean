import Derived.Test.YtemfhcmeeldngaaGreatDoorDmg
/- The draws of the laws on parsings. -/
set_option linter.unusedSimpArgs false
set_option linter.unusedVariables false
namespace Go.Proofs.YtemfhcmeeldngaaGreatDoor
open Go.RowKit
set_option maxRecDepth 8000 in
set_option maxHeartbeats 8000000 in
theorem sText5_any (g : Nat) (T : List Rul) (a : Option Addr) (n c : Nat) (w : World) (h : SrcOk w g) (hn : T.length = n) (h64 : n ≤ 64) (hs : ∀ r ∈ T, SmR r) (hr : RulesG w (g + 1) a T) :
    Calls Tryz.prog 51 #[.pointer (some ⟨g, 0, none⟩), .slice a n c] w (RetTxt w g) := by
  have hg := h.lt
  have hg' : g + 1 ≤ w.heap.size := hg
  have H0 := Lib.hid h
  subst hn
  replace hr := Lib.hid hr
  replace hs := Lib.hid hs
  clear h
  go_enter Tryz.func51, Tryz.ntmps51
  go_wp2_with fail
  with_reducible refine (next_any g 7 _ (by (repeat (first | (with_reducible exact H0.out) | (with_reducible refine SrcOk.alloc ?_ _) | (with_reducible refine SrcOk.set ?_ ?_ _) | (with_reducible refine SrcOk.drewN ?_ _) | (with_reducible refine SrcOk.drew ?_) | (with_reducible refine SrcOk.later _ ?_) | (with_reducible refine SrcOk.after _ ?_ ?_) | (dsimp only; omega) | omega | ((try simp only [World.size_alloc, World.size_setCell, World.size_drew]); omega))))).mono ?_
  rintro e w' ⟨t, hdraw, rfl, z1, rfl, hsrc⟩
  have hsz1 := z1.btw.size
  (try simp only [World.size_alloc, World.size_setCell, World.size_drew] at hsz1)
  have H1 := Lib.hid hsrc
  clear hsrc
  obtain ⟨t0, t1⟩ := hdraw
  obtain ⟨m0, rfl⟩ := Int.eq_ofNat_of_zero_le t0
  have hm7 : m0 < 7 := by omega
  have hbt1 := Lib.hid z1.btw
  have hr1 := Lib.hid (hr.out.after z1 (Nat.le_refl _))
  go_wp2_with fail
  go_loopw [5, 6] (fun ov nv wr => ∃ (m : Nat) (o : ByteArray), o.size + 64 * m ≤ 400 ∧ nv = .int .i64 m ∧ ov = .string o ∧ RulesG wr (g + 1) a T ∧ SrcOk wr g ∧ Between g (g + 1) w wr) (fun _ nv _ => (intOf nv).toNat)
  case atStart => exact ⟨m0, ⟨#[]⟩, by have : (ByteArray.mk #[]).size = 0 := rfl; omega, rfl, rfl, hr1.out, H1.out, hbt1.out⟩
  case round =>
    obtain ⟨m, o, hm, rfl, rfl, hR, hsr, hb⟩ := hrel
    obtain ⟨q, rfl⟩ := AfterC.mk hb
    have hqs := q.btw.size
    clear hb hbt1 hr1
    replace hsr := Lib.hid hsr
    by_cases hm0 : 0 < m ∧ 0 < T.length
    · obtain ⟨hm0, hT0⟩ := hm0
      have hm1 : (0 : Int) < (m : Int) := by omega
      have hT1 : (0 : Int) < (T.length : Int) := by omega
      replace hR := Lib.hid hR
      go_wp2_with fail
      with_reducible refine (next_any g (T.length : Int) _ (by (repeat (first | (with_reducible exact hsr.out) | (with_reducible refine SrcOk.alloc ?_ _) | (with_reducible refine SrcOk.set ?_ ?_ _) | (with_reducible refine SrcOk.drewN ?_ _) | (with_reducible refine SrcOk.drew ?_) | (with_reducible refine SrcOk.later _ ?_) | (with_reducible refine SrcOk.after _ ?_ ?_) | (dsimp only; omega) | omega | ((try simp only [World.size_alloc, World.size_setCell, World.size_drew]); omega))))).mono ?_
      rintro e w' ⟨x, hdraw, rfl, z3, rfl, hsrc⟩
      have hsz3 := z3.btw.size
      (try simp only [World.size_alloc, World.size_setCell, World.size_drew] at hsz3)
      have H3 := Lib.hid hsrc
      clear hsrc
      obtain ⟨x0, x1⟩ := hdraw
      obtain ⟨k, rfl⟩ := Int.eq_ofNat_of_zero_le x0
      have hk : k < T.length := by omega
      have hk1 : (k : Int) < (T.length : Int) := by omega
      have hR3 : RulesG z3.w (g + 1) a T := hR.out.after z3 (Nat.le_refl _)
      obtain ⟨b, oo, ai, ci, rfl, hb0, hb1, q0, q1, -, -, -, -⟩ := hR3 k hk
      have hs64 := (hs.out _ (List.getElem_mem hk)).t
      have hov : o.size + T[k].rom.size ≤ 9223372036854775807 := by omega
      have hov2 : o.size + T[k].rom.size < 9223372036854775808 := by omega
      replace hR3 := Lib.hid hR3
      clear q0
      go_wp2_with fail
      go_roundw
      case rel => exact ⟨m - 1, o ++ T[k].rom, by rw [ByteArray.size_append]; omega, by go_num, rfl, hR3.out, by (repeat (first | (with_reducible exact H3.out) | (with_reducible refine SrcOk.alloc ?_ _) | (with_reducible refine SrcOk.set ?_ ?_ _) | (with_reducible refine SrcOk.drewN ?_ _) | (with_reducible refine SrcOk.drew ?_) | (with_reducible refine SrcOk.later _ ?_) | (with_reducible refine SrcOk.after _ ?_ ?_) | (dsimp only; omega) | omega | ((try simp only [World.size_alloc, World.size_setCell, World.size_drew]); omega))), by (repeat (first | (with_reducible exact Between.refl _ _ _) | (with_reducible refine Between.drew ?_) | (with_reducible refine Between.drewN ?_ _) | (with_reducible refine btw_own ?_ ?_ _) | (with_reducible refine btw_later _ ?_) | (with_reducible refine btw_alloc ?_ _) | (with_reducible refine btw_after _ ?_) | (with_reducible refine btw_beyond _ ?_ ?_) | (with_reducible refine Aft.btw _ ?_ ?_) | (with_reducible assumption) | (dsimp only; omega) | omega | ((try simp only [World.size_alloc, World.size_setCell, World.size_drew]); omega)))⟩
      case measure => first | (simp [intOf]; done) | (simp [intOf]; omega) | omega
    · have hcond : (¬ (0 : Int) < (m : Int)) ∨ ((0 : Int) < (m : Int) ∧ ¬ (0 : Int) < (T.length : Int)) := by omega
      replace hR := Lib.hid hR
      have key : ∀ (W : World), True := fun _ => trivial
      rcases hcond with hc | ⟨hc, hc2⟩
      · skip
        go_wp2_with fail
        with_reducible refine (next_any g 16 _ (by (repeat (first | (with_reducible exact hsr.out) | (with_reducible refine SrcOk.alloc ?_ _) | (with_reducible refine SrcOk.set ?_ ?_ _) | (with_reducible refine SrcOk.drewN ?_ _) | (with_reducible refine SrcOk.drew ?_) | (with_reducible refine SrcOk.later _ ?_) | (with_reducible refine SrcOk.after _ ?_ ?_) | (dsimp only; omega) | omega | ((try simp only [World.size_alloc, World.size_setCell, World.size_drew]); omega))))).mono ?_
        rintro e w' ⟨y, hdraw, rfl, z4, rfl, hsrc⟩
        have hsz4 := z4.btw.size
        (try simp only [World.size_alloc, World.size_setCell, World.size_drew] at hsz4)
        have H4 := Lib.hid hsrc
        clear hsrc
        obtain ⟨y0, y1⟩ := hdraw
        have hbt4 : Between g (g + 1) w z4.w := by (repeat (first | (with_reducible exact Between.refl _ _ _) | (with_reducible refine Between.drew ?_) | (with_reducible refine Between.drewN ?_ _) | (with_reducible refine btw_own ?_ ?_ _) | (with_reducible refine btw_later _ ?_) | (with_reducible refine btw_alloc ?_ _) | (with_reducible refine btw_after _ ?_) | (with_reducible refine btw_beyond _ ?_ ?_) | (with_reducible refine Aft.btw _ ?_ ?_) | (with_reducible assumption) | (dsimp only; omega) | omega | ((try simp only [World.size_alloc, World.size_setCell, World.size_drew]); omega)))
        replace hbt4 := Lib.hid hbt4
        rcases (show y = 0 ∨ y = 1 ∨ 2 ≤ y by omega) with rfl | rfl | hy
        · go_wp2_with fail
          with_reducible refine (damage_any g o _ (by (repeat (first | (with_reducible exact H4.out) | (with_reducible refine SrcOk.alloc ?_ _) | (with_reducible refine SrcOk.set ?_ ?_ _) | (with_reducible refine SrcOk.drewN ?_ _) | (with_reducible refine SrcOk.drew ?_) | (with_reducible refine SrcOk.later _ ?_) | (with_reducible refine SrcOk.after _ ?_ ?_) | (dsimp only; omega) | omega | ((try simp only [World.size_alloc, World.size_setCell, World.size_drew]); omega)))) (by omega)).mono ?_
          rintro e w' ⟨s, hs2, rfl, z5, rfl, hsrc⟩
          have H5 := Lib.hid hsrc
          clear hsrc
          go_wp2_with fail
          go_ret
          exact RetTxt.mk hs2 rfl (hbt4.out.trans z5.btw) H5.out
        · have hH4 := Lib.hid (show SrcOk z4.w g from H4.out)
          go_wp2_with fail
          go_loopw [5] (fun ov wr => ∃ (o : ByteArray), o.size ≤ 400 ∧ ov = .string o ∧ SrcOk wr g ∧ Between g (g + 1) w wr) (fun ov _ => 64 - (match ov with | .string s => s.size | _ => 0))
          case atStart => exact ⟨o, by omega, rfl, hH4.out, hbt4.out⟩
          case round =>
            obtain ⟨o, ho, rfl, hsr, hb⟩ := hrel
            obtain ⟨v, rfl⟩ := AfterC.mk hb
            have hvs := v.btw.size
            clear hb
            replace hsr := Lib.hid hsr
            go_wp2_with fail
            with_reducible refine (next_any g 2 _ (by (repeat (first | (with_reducible exact hsr.out) | (with_reducible refine SrcOk.alloc ?_ _) | (with_reducible refine SrcOk.set ?_ ?_ _) | (with_reducible refine SrcOk.drewN ?_ _) | (with_reducible refine SrcOk.drew ?_) | (with_reducible refine SrcOk.later _ ?_) | (with_reducible refine SrcOk.after _ ?_ ?_) | (dsimp only; omega) | omega | ((try simp only [World.size_alloc, World.size_setCell, World.size_drew]); omega))))).mono ?_
            rintro e w' ⟨x, hdraw, rfl, z5, rfl, hsrc⟩
            have H5 := Lib.hid hsrc
            have hs5 := z5.btw.size
            clear hsrc
            obtain ⟨x0, x1⟩ := hdraw
            by_cases hlt : (o.size : Int) < 48 + x
            · have e1 : (ByteArray.mk #[97]).size = 1 := rfl
              have hov : o.size + (ByteArray.mk #[97]).size ≤ 9223372036854775807 := by omega
              have hov2 : o.size + (ByteArray.mk #[97]).size < 9223372036854775808 := by omega
              go_wp2_with fail
              go_roundw
              case rel => exact ⟨o ++ ⟨#[97]⟩, by rw [ByteArray.size_append]; omega, rfl, by (repeat (first | (with_reducible exact H5.out) | (with_reducible refine SrcOk.alloc ?_ _) | (with_reducible refine SrcOk.set ?_ ?_ _) | (with_reducible refine SrcOk.drewN ?_ _) | (with_reducible refine SrcOk.drew ?_) | (with_reducible refine SrcOk.later _ ?_) | (with_reducible refine SrcOk.after _ ?_ ?_) | (dsimp only; omega) | omega | ((try simp only [World.size_alloc, World.size_setCell, World.size_drew]); omega))), by (repeat (first | (with_reducible exact Between.refl _ _ _) | (with_reducible refine Between.drew ?_) | (with_reducible refine Between.drewN ?_ _) | (with_reducible refine btw_own ?_ ?_ _) | (with_reducible refine btw_later _ ?_) | (with_reducible refine btw_alloc ?_ _) | (with_reducible refine btw_after _ ?_) | (with_reducible refine btw_beyond _ ?_ ?_) | (with_reducible refine Aft.btw _ ?_ ?_) | (with_reducible assumption) | (dsimp only; omega) | omega | ((try simp only [World.size_alloc, World.size_setCell, World.size_drew]); omega)))⟩
              case measure =>
                simp only
                rw [ByteArray.size_append]
                omega
            · go_wp2_with fail
              go_ret
              exact RetTxt.mk (by omega) rfl (by (repeat (first | (with_reducible exact Between.refl _ _ _) | (with_reducible refine Between.drew ?_) | (with_reducible refine Between.drewN ?_ _) | (with_reducible refine btw_own ?_ ?_ _) | (with_reducible refine btw_later _ ?_) | (with_reducible refine btw_alloc ?_ _) | (with_reducible refine btw_after _ ?_) | (with_reducible refine btw_beyond _ ?_ ?_) | (with_reducible refine Aft.btw _ ?_ ?_) | (with_reducible assumption) | (dsimp only; omega) | omega | ((try simp only [World.size_alloc, World.size_setCell, World.size_drew]); omega)))) (by (repeat (first | (with_reducible exact H5.out) | (with_reducible refine SrcOk.alloc ?_ _) | (with_reducible refine SrcOk.set ?_ ?_ _) | (with_reducible refine SrcOk.drewN ?_ _) | (with_reducible refine SrcOk.drew ?_) | (with_reducible refine SrcOk.later _ ?_) | (with_reducible refine SrcOk.after _ ?_ ?_) | (dsimp only; omega) | omega | ((try simp only [World.size_alloc, World.size_setCell, World.size_drew]); omega))))
        · have hy0 : (y == 0) = false := by simp; omega
          have hy1 : (y == 1) = false := by simp; omega
          go_wp2_with fail
          go_ret
          exact RetTxt.mk (by omega) rfl hbt4.out H4.out
      · skip
        go_wp2_with fail
        with_reducible refine (next_any g 16 _ (by (repeat (first | (with_reducible exact hsr.out) | (with_reducible refine SrcOk.alloc ?_ _) | (with_reducible refine SrcOk.set ?_ ?_ _) | (with_reducible refine SrcOk.drewN ?_ _) | (with_reducible refine SrcOk.drew ?_) | (with_reducible refine SrcOk.later _ ?_) | (with_reducible refine SrcOk.after _ ?_ ?_) | (dsimp only; omega) | omega | ((try simp only [World.size_alloc, World.size_setCell, World.size_drew]); omega))))).mono ?_
        rintro e w' ⟨y, hdraw, rfl, z4, rfl, hsrc⟩
        have hsz4 := z4.btw.size
        (try simp only [World.size_alloc, World.size_setCell, World.size_drew] at hsz4)
        have H4 := Lib.hid hsrc
        clear hsrc
        obtain ⟨y0, y1⟩ := hdraw
        have hbt4 : Between g (g + 1) w z4.w := by (repeat (first | (with_reducible exact Between.refl _ _ _) | (with_reducible refine Between.drew ?_) | (with_reducible refine Between.drewN ?_ _) | (with_reducible refine btw_own ?_ ?_ _) | (with_reducible refine btw_later _ ?_) | (with_reducible refine btw_alloc ?_ _) | (with_reducible refine btw_after _ ?_) | (with_reducible refine btw_beyond _ ?_ ?_) | (with_reducible refine Aft.btw _ ?_ ?_) | (with_reducible assumption) | (dsimp only; omega) | omega | ((try simp only [World.size_alloc, World.size_setCell, World.size_drew]); omega)))
        replace hbt4 := Lib.hid hbt4
        rcases (show y = 0 ∨ y = 1 ∨ 2 ≤ y by omega) with rfl | rfl | hy
        · go_wp2_with fail
          with_reducible refine (damage_any g o _ (by (repeat (first | (with_reducible exact H4.out) | (with_reducible refine SrcOk.alloc ?_ _) | (with_reducible refine SrcOk.set ?_ ?_ _) | (with_reducible refine SrcOk.drewN ?_ _) | (with_reducible refine SrcOk.drew ?_) | (with_reducible refine SrcOk.later _ ?_) | (with_reducible refine SrcOk.after _ ?_ ?_) | (dsimp only; omega) | omega | ((try simp only [World.size_alloc, World.size_setCell, World.size_drew]); omega)))) (by omega)).mono ?_
          rintro e w' ⟨s, hs2, rfl, z5, rfl, hsrc⟩
          have H5 := Lib.hid hsrc
          clear hsrc
          go_wp2_with fail
          go_ret
          exact RetTxt.mk hs2 rfl (hbt4.out.trans z5.btw) H5.out
        · have hH4 := Lib.hid (show SrcOk z4.w g from H4.out)
          go_wp2_with fail
          go_loopw [5] (fun ov wr => ∃ (o : ByteArray), o.size ≤ 400 ∧ ov = .string o ∧ SrcOk wr g ∧ Between g (g + 1) w wr) (fun ov _ => 64 - (match ov with | .string s => s.size | _ => 0))
          case atStart => exact ⟨o, by omega, rfl, hH4.out, hbt4.out⟩
          case round =>
            obtain ⟨o, ho, rfl, hsr, hb⟩ := hrel
            obtain ⟨v, rfl⟩ := AfterC.mk hb
            have hvs := v.btw.size
            clear hb
            replace hsr := Lib.hid hsr
            go_wp2_with fail
            with_reducible refine (next_any g 2 _ (by (repeat (first | (with_reducible exact hsr.out) | (with_reducible refine SrcOk.alloc ?_ _) | (with_reducible refine SrcOk.set ?_ ?_ _) | (with_reducible refine SrcOk.drewN ?_ _) | (with_reducible refine SrcOk.drew ?_) | (with_reducible refine SrcOk.later _ ?_) | (with_reducible refine SrcOk.after _ ?_ ?_) | (dsimp only; omega) | omega | ((try simp only [World.size_alloc, World.size_setCell, World.size_drew]); omega))))).mono ?_
            rintro e w' ⟨x, hdraw, rfl, z5, rfl, hsrc⟩
            have H5 := Lib.hid hsrc
            have hs5 := z5.btw.size
            clear hsrc
            obtain ⟨x0, x1⟩ := hdraw
            by_cases hlt : (o.size : Int) < 48 + x
            · have e1 : (ByteArray.mk #[97]).size = 1 := rfl
              have hov : o.size + (ByteArray.mk #[97]).size ≤ 9223372036854775807 := by omega
              have hov2 : o.size + (ByteArray.mk #[97]).size < 9223372036854775808 := by omega
              go_wp2_with fail
              go_roundw
              case rel => exact ⟨o ++ ⟨#[97]⟩, by rw [ByteArray.size_append]; omega, rfl, by (repeat (first | (with_reducible exact H5.out) | (with_reducible refine SrcOk.alloc ?_ _) | (with_reducible refine SrcOk.set ?_ ?_ _) | (with_reducible refine SrcOk.drewN ?_ _) | (with_reducible refine SrcOk.drew ?_) | (with_reducible refine SrcOk.later _ ?_) | (with_reducible refine SrcOk.after _ ?_ ?_) | (dsimp only; omega) | omega | ((try simp only [World.size_alloc, World.size_setCell, World.size_drew]); omega))), by (repeat (first | (with_reducible exact Between.refl _ _ _) | (with_reducible refine Between.drew ?_) | (with_reducible refine Between.drewN ?_ _) | (with_reducible refine btw_own ?_ ?_ _) | (with_reducible refine btw_later _ ?_) | (with_reducible refine btw_alloc ?_ _) | (with_reducible refine btw_after _ ?_) | (with_reducible refine btw_beyond _ ?_ ?_) | (with_reducible refine Aft.btw _ ?_ ?_) | (with_reducible assumption) | (dsimp only; omega) | omega | ((try simp only [World.size_alloc, World.size_setCell, World.size_drew]); omega)))⟩
              case measure =>
                simp only
                rw [ByteArray.size_append]
                omega
            · go_wp2_with fail
              go_ret
              exact RetTxt.mk (by omega) rfl (by (repeat (first | (with_reducible exact Between.refl _ _ _) | (with_reducible refine Between.drew ?_) | (with_reducible refine Between.drewN ?_ _) | (with_reducible refine btw_own ?_ ?_ _) | (with_reducible refine btw_later _ ?_) | (with_reducible refine btw_alloc ?_ _) | (with_reducible refine btw_after _ ?_) | (with_reducible refine btw_beyond _ ?_ ?_) | (with_reducible refine Aft.btw _ ?_ ?_) | (with_reducible assumption) | (dsimp only; omega) | omega | ((try simp only [World.size_alloc, World.size_setCell, World.size_drew]); omega)))) (by (repeat (first | (with_reducible exact H5.out) | (with_reducible refine SrcOk.alloc ?_ _) | (with_reducible refine SrcOk.set ?_ ?_ _) | (with_reducible refine SrcOk.drewN ?_ _) | (with_reducible refine SrcOk.drew ?_) | (with_reducible refine SrcOk.later _ ?_) | (with_reducible refine SrcOk.after _ ?_ ?_) | (dsimp only; omega) | omega | ((try simp only [World.size_alloc, World.size_setCell, World.size_drew]); omega))))
        · have hy0 : (y == 0) = false := by simp; omega
          have hy1 : (y == 1) = false := by simp; omega
          go_wp2_with fail
          go_ret
          exact RetTxt.mk (by omega) rfl hbt4.out H4.out
/-- A table and a text that a draw made. -/
def RetTT (w : World) (e : Ending) (w' : World) : Prop :=
  ∃ (T : List Rul) (a : Option Addr) (n c : Nat) (s : ByteArray), e = .returned (.tuple #[.slice a n c, .string s]) ∧ T.length = n ∧ n ≤ 64 ∧ n ≤ c ∧ c ≤ maxLen ∧ (∀ r ∈ T, SmR r) ∧ s.size ≤ 20000 ∧ RulesR w' a T ∧ ∃ y : Later w, w' = y.w
section
variable (a : Option Addr) (n c : Nat) (bs : List Int) (w : World) (hr : Row w a (byteCells bs)) (hl : bs.length = n) (hn : n ≤ 4096) (hx : ∀ x ∈ bs, 0 ≤ x ∧ x ≤ 255)
include hr hl hn hx
set_option maxHeartbeats 2000000 in
theorem drawCnt_any : Calls Tryz.prog 29 #[.slice a n c] w (RetTT w) := by
  replace hr := Lib.hid hr
  replace hl := Lib.hid hl
  replace hx := Lib.hid hx
  go_enter Tryz.func29, Tryz.ntmps29
  go_wp2_with fail
  with_reducible refine (from_any a n c bs _ (hr.out.bel (by (repeat (first | (with_reducible exact Below.refl _ _) | (with_reducible assumption) | (with_reducible refine Later.out _ ?_) | (with_reducible refine bel_alloc ?_ _) | (with_reducible refine bel_drew ?_) | (with_reducible refine bel_drewN ?_ _) | (with_reducible refine bel_set ?_ ?_ _) | (with_reducible refine After.out _ ?_ ?_) | (dsimp only; omega) | omega | (simp only [World.size_alloc, World.size_setCell, World.size_drew]; omega))))) hl.out hn hx.out).mono ?_
  rintro e w' ⟨g, hg, rfl, y, rfl, hsrc⟩
  have hsy := y.bel.size
  (try simp only [World.size_alloc, World.size_setCell, World.size_drew] at hg hsy)
  have hgy := hsrc.lt
  have H0 := Lib.hid hsrc
  clear hsrc
  go_wp2_with fail
  with_reducible refine (sGood5_any g _ (by (repeat (first | (with_reducible exact H0.out) | (with_reducible refine SrcOk.alloc ?_ _) | (with_reducible refine SrcOk.set ?_ ?_ _) | (with_reducible refine SrcOk.drewN ?_ _) | (with_reducible refine SrcOk.drew ?_) | (with_reducible refine SrcOk.later _ ?_) | (with_reducible refine SrcOk.after _ ?_ ?_) | (dsimp only; omega) | omega | ((try simp only [World.size_alloc, World.size_setCell, World.size_drew]); omega))))).mono ?_
  rintro e w' ⟨T, a1, n1, c1, rfl, hl1, h64, hnc, hcm, hok, z1, rfl, hsrc, hR⟩
  have hs1 := z1.btw.size
  have H1 := Lib.hid hsrc
  have CT := Lib.hid (fun (w' : World) (h : SrcOk w' g) (hr : RulesG w' (g + 1) a1 T) => sText5_any g T a1 n1 c1 w' h hl1 h64 hok hr)
  replace hR := Lib.hid hR
  replace hok := Lib.hid hok
  replace hl1 := Lib.hid hl1
  clear hsrc
  go_wp2_with fail
  with_reducible refine (CT.out _ H1.out (hR.out.wide (by omega))).mono ?_
  rintro e w' ⟨s, hs2, rfl, z2, rfl, hsrc⟩
  have hs3 := z2.btw.size
  clear hsrc
  go_wp2_with fail
  refine bodyPost_ret (by simp [results, Tryz.results29, go_sem, ↓IntWalk.iteOmega, *]; try rfl) rfl ?_
  have hb : Below w.heap.size w z2.w := z2.out (z1.out (by (repeat (first | (with_reducible exact Below.refl _ _) | (with_reducible assumption) | (with_reducible refine Later.out _ ?_) | (with_reducible refine bel_alloc ?_ _) | (with_reducible refine bel_drew ?_) | (with_reducible refine bel_drewN ?_ _) | (with_reducible refine bel_set ?_ ?_ _) | (with_reducible refine After.out _ ?_ ?_) | (dsimp only; omega) | omega | (simp only [World.size_alloc, World.size_setCell, World.size_drew]; omega)))) (by omega)) (by omega)
  exact ⟨T, a1, n1, c1, s, rfl, hl1.out, h64, hnc, hcm, hok.out, hs2, (hR.out.after z2 (by omega)).rules, ⟨z2.w, hb⟩, rfl⟩
end
end Go.Proofs.YtemfhcmeeldngaaGreatDoor

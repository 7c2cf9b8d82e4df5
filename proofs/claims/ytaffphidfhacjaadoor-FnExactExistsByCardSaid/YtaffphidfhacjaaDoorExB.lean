import Derived.Test.YtaffphidfhacjaaDoorAbt
import Derived.Test.YtaffphidfhacjaaDoorExP
import Derived.Test.YtaffphidfhacjaaDoorCons
/- ExistsBy, both sides. -/
set_option linter.unusedSimpArgs false
set_option linter.unusedVariables false
namespace Go.Proofs.YtaffphidfhacjaaDoor
open Go.RowKit
set_option maxRecDepth 4000 in
set_option maxHeartbeats 4000000 in
theorem existsBy_any (L : List Clm) (p : ByteArray) (y : Int) (a : Option Addr) (n c : Nat) (w : World) (hn : L.length = n) (hm : n ≤ 1048576) (hr : Row w a (clmsCells L)) :
    Calls Tryd.prog 36 #[.slice a n c, .string p, .int .i64 y] w (Ret w (.int .i64 (exFst p y L))) := by
  subst hn
  replace hr := Lib.hid hr
  go_enter Tryd.func36, Tryd.ntmps36
  go_wp2_with fail
  go_loopw [11] (fun i wr => ∃ k : Nat, k ≤ L.length ∧ i = .int .i64 k ∧ exFst p y L = exFst p y (L.drop k) ∧ ∃ z : Later w, wr = z.w) (fun i _ => L.length - (intOf i).toNat)
  case atStart => exact ⟨0, Nat.zero_le _, rfl, rfl, ⟨_, Below.refl _ _⟩, rfl⟩
  case round =>
    obtain ⟨k, hk, rfl, heq, z, rfl⟩ := hrel
    replace heq := Lib.hid heq
    have hzz := z.bel.size
    by_cases hlt : k < L.length
    · obtain ⟨b, o, rfl, hb, q0, q1, q2, q3, q4, q5, q6⟩ := hr.out.clm hlt
      have hno := fun h : exV p y L[k] = none => (show exFst p y L = exFst p y (L.drop (k + 1)) from heq.out.trans (exFst_none hlt h))
      have hyes := fun (v : Int) (h : exV p y L[k] = some v) => (show exFst p y L = v from heq.out.trans (exFst_some hlt h))
      cases hv : inB y L[k].fr L[k].to
      · have X := Lib.hid (hno (exV_no hv))
        replace hv := Lib.hid hv
        clear hno hyes 
        go_wp2_with fail
        with_reducible refine (has_b hv.out).mono ?_
        rintro e w' ⟨rfl, y1, rfl⟩
        have hsy1 := y1.bel.size
        (try simp only [World.size_alloc, World.size_setCell, World.size_drew] at hsy1)
        go_wp2_with fail
        go_roundw
        case rel => exact ⟨k + 1, by omega, by go_num, X.out, LaterC.mk (by (repeat (first | (with_reducible exact Below.refl _ _) | (with_reducible assumption) | (with_reducible refine Later.out _ ?_) | (with_reducible refine bel_alloc ?_ _) | (with_reducible refine bel_drew ?_) | (with_reducible refine bel_drewN ?_ _) | (with_reducible refine bel_set ?_ ?_ _) | (with_reducible refine After.out _ ?_ ?_) | (dsimp only; omega) | omega | (simp only [World.size_alloc, World.size_setCell, World.size_drew]; omega))))⟩
        case measure => first | (simp [intOf]; done) | (simp [intOf]; omega) | omega
      · rcases sameB L[k].place p with ⟨e, e1⟩ | ⟨e, e1⟩
        · by_cases h3 : L[k].kind = 3
          · rw [h3] at q1
            have X := Lib.hid (hyes (-1) (exV_miss hv e h3))
            replace hv := Lib.hid hv
            clear hno hyes e h3
            go_wp2_with fail
            with_reducible refine (has_b hv.out).mono ?_
            rintro e w' ⟨rfl, y1, rfl⟩
            have hsy1 := y1.bel.size
            (try simp only [World.size_alloc, World.size_setCell, World.size_drew] at hsy1)
            go_wp2_with fail
            go_ret
            exact .mk (by rw [X.out]; rfl) (by (repeat (first | (with_reducible exact Below.refl _ _) | (with_reducible assumption) | (with_reducible refine Later.out _ ?_) | (with_reducible refine bel_alloc ?_ _) | (with_reducible refine bel_drew ?_) | (with_reducible refine bel_drewN ?_ _) | (with_reducible refine bel_set ?_ ?_ _) | (with_reducible refine After.out _ ?_ ?_) | (dsimp only; omega) | omega | (simp only [World.size_alloc, World.size_setCell, World.size_drew]; omega))))
          · have k3 : (L[k].kind == 3) = false := by simp [h3]
            have X := Lib.hid (hyes (1) (exV_is hv e h3))
            replace hv := Lib.hid hv
            clear hno hyes e h3
            go_wp2_with fail
            with_reducible refine (has_b hv.out).mono ?_
            rintro e w' ⟨rfl, y1, rfl⟩
            have hsy1 := y1.bel.size
            (try simp only [World.size_alloc, World.size_setCell, World.size_drew] at hsy1)
            go_wp2_with fail
            go_ret
            exact .mk (by rw [X.out]; rfl) (by (repeat (first | (with_reducible exact Below.refl _ _) | (with_reducible assumption) | (with_reducible refine Later.out _ ?_) | (with_reducible refine bel_alloc ?_ _) | (with_reducible refine bel_drew ?_) | (with_reducible refine bel_drewN ?_ _) | (with_reducible refine bel_set ?_ ?_ _) | (with_reducible refine After.out _ ?_ ?_) | (dsimp only; omega) | omega | (simp only [World.size_alloc, World.size_setCell, World.size_drew]; omega))))
        · by_cases h1 : L[k].kind = 1
          · rw [h1] at q1
            rcases sameB L[k].val p with ⟨e2, e3⟩ | ⟨e2, e3⟩
            · have X := Lib.hid (hyes (1) (exV_par hv e h1 e2))
              replace hv := Lib.hid hv
              clear hno hyes e h1 e2
              go_wp2_with fail
              with_reducible refine (has_b hv.out).mono ?_
              rintro e w' ⟨rfl, y1, rfl⟩
              have hsy1 := y1.bel.size
              (try simp only [World.size_alloc, World.size_setCell, World.size_drew] at hsy1)
              go_wp2_with fail
              go_ret
              exact .mk (by rw [X.out]; rfl) (by (repeat (first | (with_reducible exact Below.refl _ _) | (with_reducible assumption) | (with_reducible refine Later.out _ ?_) | (with_reducible refine bel_alloc ?_ _) | (with_reducible refine bel_drew ?_) | (with_reducible refine bel_drewN ?_ _) | (with_reducible refine bel_set ?_ ?_ _) | (with_reducible refine After.out _ ?_ ?_) | (dsimp only; omega) | omega | (simp only [World.size_alloc, World.size_setCell, World.size_drew]; omega))))
            · have X := Lib.hid (hno (exV_oth e e2))
              replace hv := Lib.hid hv
              clear hno hyes e h1 e2
              go_wp2_with fail
              with_reducible refine (has_b hv.out).mono ?_
              rintro e w' ⟨rfl, y1, rfl⟩
              have hsy1 := y1.bel.size
              (try simp only [World.size_alloc, World.size_setCell, World.size_drew] at hsy1)
              go_wp2_with fail
              go_roundw
              case rel => exact ⟨k + 1, by omega, by go_num, X.out, LaterC.mk (by (repeat (first | (with_reducible exact Below.refl _ _) | (with_reducible assumption) | (with_reducible refine Later.out _ ?_) | (with_reducible refine bel_alloc ?_ _) | (with_reducible refine bel_drew ?_) | (with_reducible refine bel_drewN ?_ _) | (with_reducible refine bel_set ?_ ?_ _) | (with_reducible refine After.out _ ?_ ?_) | (dsimp only; omega) | omega | (simp only [World.size_alloc, World.size_setCell, World.size_drew]; omega))))⟩
              case measure => first | (simp [intOf]; done) | (simp [intOf]; omega) | omega
          · have k1 : (L[k].kind == 1) = false := by simp [h1]
            have X := Lib.hid (hno (exV_kind e h1))
            replace hv := Lib.hid hv
            clear hno hyes e h1
            go_wp2_with fail
            with_reducible refine (has_b hv.out).mono ?_
            rintro e w' ⟨rfl, y1, rfl⟩
            have hsy1 := y1.bel.size
            (try simp only [World.size_alloc, World.size_setCell, World.size_drew] at hsy1)
            go_wp2_with fail
            go_roundw
            case rel => exact ⟨k + 1, by omega, by go_num, X.out, LaterC.mk (by (repeat (first | (with_reducible exact Below.refl _ _) | (with_reducible assumption) | (with_reducible refine Later.out _ ?_) | (with_reducible refine bel_alloc ?_ _) | (with_reducible refine bel_drew ?_) | (with_reducible refine bel_drewN ?_ _) | (with_reducible refine bel_set ?_ ?_ _) | (with_reducible refine After.out _ ?_ ?_) | (dsimp only; omega) | omega | (simp only [World.size_alloc, World.size_setCell, World.size_drew]; omega))))⟩
            case measure => first | (simp [intOf]; done) | (simp [intOf]; omega) | omega
    · obtain rfl : k = L.length := by omega
      have X := Lib.hid (show exFst p y L = 0 from heq.out.trans (exFst_end L))
      go_wp2_with fail
      go_ret
      exact .mk (by rw [X.out]; rfl) (by (repeat (first | (with_reducible exact Below.refl _ _) | (with_reducible assumption) | (with_reducible refine Later.out _ ?_) | (with_reducible refine bel_alloc ?_ _) | (with_reducible refine bel_drew ?_) | (with_reducible refine bel_drewN ?_ _) | (with_reducible refine bel_set ?_ ?_ _) | (with_reducible refine After.out _ ?_ ?_) | (dsimp only; omega) | omega | (simp only [World.size_alloc, World.size_setCell, World.size_drew]; omega))))
set_option maxRecDepth 4000 in
set_option maxHeartbeats 4000000 in
theorem sExists_any (L : List Clm) (p : ByteArray) (y : Int) (a : Option Addr) (n c : Nat) (w : World) (hn : L.length = n) (hm : n ≤ 1048576) (hr : Row w a (clmsCells L)) :
    Calls Tryd.prog 34 #[.slice a n c, .string p, .int .i64 y] w (Ret w (.int .i64 (exLst p y 0 L))) := by
  subst hn
  replace hr := Lib.hid hr
  have hfull := Lib.hid (show exLst p y 0 (L.take L.length) = exLst p y 0 L by rw [List.take_length])
  go_enter Tryd.func34, Tryd.ntmps34
  go_wp2_with fail
  go_loopw [7, 8] (fun v i wr => ∃ k : Nat, k ≤ L.length ∧ i = .int .i64 k ∧ v = .int .i64 (exLst p y 0 (L.take k)) ∧ ∃ z : Later w, wr = z.w) (fun _ i _ => L.length - (intOf i).toNat)
  case atStart => exact ⟨0, Nat.zero_le _, rfl, rfl, ⟨_, Below.refl _ _⟩, rfl⟩
  case round =>
    obtain ⟨k, hk, rfl, rfl, z, rfl⟩ := hrel
    have hzz := z.bel.size
    by_cases hlt : k < L.length
    · obtain ⟨b, o, rfl, hb, q0, q1, q2, q3, q4, q5, q6⟩ := hr.out.clm hlt
      have hi1 : (k : Int) < (L.length : Int) := by omega
      have hno := fun h : exV p y L[k] = none => exLst_none (p := p) (y := y) hlt h
      have hyes := fun (v : Int) (h : exV p y L[k] = some v) => exLst_some (p := p) (y := y) hlt h
      obtain ⟨v0, hv0⟩ : ∃ v, exLst p y 0 (L.take k) = v := ⟨_, rfl⟩
      rw [hv0] at hno ⊢
      clear hv0
      cases hv : inB y L[k].fr L[k].to
      · have X := Lib.hid (hno (exV_no hv))
        replace hv := Lib.hid hv
        clear hno hyes 
        go_wp2_with fail
        with_reducible refine (l01In_b _ hv.out).mono ?_
        rintro e w' ⟨rfl, y1, rfl⟩
        have hsy1 := y1.bel.size
        (try simp only [World.size_alloc, World.size_setCell, World.size_drew] at hsy1)
        go_wp2_with fail
        go_roundw
        case rel => exact ⟨k + 1, by omega, by go_num, by rw [X.out], LaterC.mk (by (repeat (first | (with_reducible exact Below.refl _ _) | (with_reducible assumption) | (with_reducible refine Later.out _ ?_) | (with_reducible refine bel_alloc ?_ _) | (with_reducible refine bel_drew ?_) | (with_reducible refine bel_drewN ?_ _) | (with_reducible refine bel_set ?_ ?_ _) | (with_reducible refine After.out _ ?_ ?_) | (dsimp only; omega) | omega | (simp only [World.size_alloc, World.size_setCell, World.size_drew]; omega))))⟩
        case measure => first | (simp [intOf]; done) | (simp [intOf]; omega) | omega
      · rcases sameB L[k].place p with ⟨e, e1⟩ | ⟨e, e1⟩
        · by_cases h3 : L[k].kind = 3
          · rw [h3] at q1
            have X := Lib.hid (hyes _ (exV_miss hv e h3))
            replace hv := Lib.hid hv
            clear hno hyes e h3
            go_wp2_with fail
            with_reducible refine (l01In_b _ hv.out).mono ?_
            rintro e w' ⟨rfl, y1, rfl⟩
            have hsy1 := y1.bel.size
            (try simp only [World.size_alloc, World.size_setCell, World.size_drew] at hsy1)
            go_wp2_with fail
            go_roundw
            case rel => exact ⟨k + 1, by omega, by go_num, by rw [X.out], LaterC.mk (by (repeat (first | (with_reducible exact Below.refl _ _) | (with_reducible assumption) | (with_reducible refine Later.out _ ?_) | (with_reducible refine bel_alloc ?_ _) | (with_reducible refine bel_drew ?_) | (with_reducible refine bel_drewN ?_ _) | (with_reducible refine bel_set ?_ ?_ _) | (with_reducible refine After.out _ ?_ ?_) | (dsimp only; omega) | omega | (simp only [World.size_alloc, World.size_setCell, World.size_drew]; omega))))⟩
            case measure => first | (simp [intOf]; done) | (simp [intOf]; omega) | omega
          · have k3 : (L[k].kind == 3) = false := by simp [h3]
            have X := Lib.hid (hyes _ (exV_is hv e h3))
            replace hv := Lib.hid hv
            clear hno hyes e h3
            go_wp2_with fail
            with_reducible refine (l01In_b _ hv.out).mono ?_
            rintro e w' ⟨rfl, y1, rfl⟩
            have hsy1 := y1.bel.size
            (try simp only [World.size_alloc, World.size_setCell, World.size_drew] at hsy1)
            go_wp2_with fail
            go_roundw
            case rel => exact ⟨k + 1, by omega, by go_num, by rw [X.out], LaterC.mk (by (repeat (first | (with_reducible exact Below.refl _ _) | (with_reducible assumption) | (with_reducible refine Later.out _ ?_) | (with_reducible refine bel_alloc ?_ _) | (with_reducible refine bel_drew ?_) | (with_reducible refine bel_drewN ?_ _) | (with_reducible refine bel_set ?_ ?_ _) | (with_reducible refine After.out _ ?_ ?_) | (dsimp only; omega) | omega | (simp only [World.size_alloc, World.size_setCell, World.size_drew]; omega))))⟩
            case measure => first | (simp [intOf]; done) | (simp [intOf]; omega) | omega
        · by_cases h1 : L[k].kind = 1
          · rw [h1] at q1
            rcases sameB L[k].val p with ⟨e2, e3⟩ | ⟨e2, e3⟩
            · have X := Lib.hid (hyes _ (exV_par hv e h1 e2))
              replace hv := Lib.hid hv
              clear hno hyes e h1 e2
              go_wp2_with fail
              with_reducible refine (l01In_b _ hv.out).mono ?_
              rintro e w' ⟨rfl, y1, rfl⟩
              have hsy1 := y1.bel.size
              (try simp only [World.size_alloc, World.size_setCell, World.size_drew] at hsy1)
              go_wp2_with fail
              go_roundw
              case rel => exact ⟨k + 1, by omega, by go_num, by rw [X.out], LaterC.mk (by (repeat (first | (with_reducible exact Below.refl _ _) | (with_reducible assumption) | (with_reducible refine Later.out _ ?_) | (with_reducible refine bel_alloc ?_ _) | (with_reducible refine bel_drew ?_) | (with_reducible refine bel_drewN ?_ _) | (with_reducible refine bel_set ?_ ?_ _) | (with_reducible refine After.out _ ?_ ?_) | (dsimp only; omega) | omega | (simp only [World.size_alloc, World.size_setCell, World.size_drew]; omega))))⟩
              case measure => first | (simp [intOf]; done) | (simp [intOf]; omega) | omega
            · have X := Lib.hid (hno (exV_oth e e2))
              replace hv := Lib.hid hv
              clear hno hyes e h1 e2
              go_wp2_with fail
              with_reducible refine (l01In_b _ hv.out).mono ?_
              rintro e w' ⟨rfl, y1, rfl⟩
              have hsy1 := y1.bel.size
              (try simp only [World.size_alloc, World.size_setCell, World.size_drew] at hsy1)
              go_wp2_with fail
              go_roundw
              case rel => exact ⟨k + 1, by omega, by go_num, by rw [X.out], LaterC.mk (by (repeat (first | (with_reducible exact Below.refl _ _) | (with_reducible assumption) | (with_reducible refine Later.out _ ?_) | (with_reducible refine bel_alloc ?_ _) | (with_reducible refine bel_drew ?_) | (with_reducible refine bel_drewN ?_ _) | (with_reducible refine bel_set ?_ ?_ _) | (with_reducible refine After.out _ ?_ ?_) | (dsimp only; omega) | omega | (simp only [World.size_alloc, World.size_setCell, World.size_drew]; omega))))⟩
              case measure => first | (simp [intOf]; done) | (simp [intOf]; omega) | omega
          · by_cases h3 : L[k].kind = 3
            · have Y := hno (exV_kind e h1)
              rw [h3] at q1
              have X := Lib.hid (Y)
              replace hv := Lib.hid hv
              clear hno hyes e h1 h3 Y
              go_wp2_with fail
              with_reducible refine (l01In_b _ hv.out).mono ?_
              rintro e w' ⟨rfl, y1, rfl⟩
              have hsy1 := y1.bel.size
              (try simp only [World.size_alloc, World.size_setCell, World.size_drew] at hsy1)
              go_wp2_with fail
              go_roundw
              case rel => exact ⟨k + 1, by omega, by go_num, by rw [X.out], LaterC.mk (by (repeat (first | (with_reducible exact Below.refl _ _) | (with_reducible assumption) | (with_reducible refine Later.out _ ?_) | (with_reducible refine bel_alloc ?_ _) | (with_reducible refine bel_drew ?_) | (with_reducible refine bel_drewN ?_ _) | (with_reducible refine bel_set ?_ ?_ _) | (with_reducible refine After.out _ ?_ ?_) | (dsimp only; omega) | omega | (simp only [World.size_alloc, World.size_setCell, World.size_drew]; omega))))⟩
              case measure => first | (simp [intOf]; done) | (simp [intOf]; omega) | omega
            · have k1 : (L[k].kind == 1) = false := by simp [h1]
              have k3 : (L[k].kind == 3) = false := by simp [h3]
              have X := Lib.hid (hno (exV_kind e h1))
              replace hv := Lib.hid hv
              clear hno hyes e h1 h3
              go_wp2_with fail
              with_reducible refine (l01In_b _ hv.out).mono ?_
              rintro e w' ⟨rfl, y1, rfl⟩
              have hsy1 := y1.bel.size
              (try simp only [World.size_alloc, World.size_setCell, World.size_drew] at hsy1)
              go_wp2_with fail
              go_roundw
              case rel => exact ⟨k + 1, by omega, by go_num, by rw [X.out], LaterC.mk (by (repeat (first | (with_reducible exact Below.refl _ _) | (with_reducible assumption) | (with_reducible refine Later.out _ ?_) | (with_reducible refine bel_alloc ?_ _) | (with_reducible refine bel_drew ?_) | (with_reducible refine bel_drewN ?_ _) | (with_reducible refine bel_set ?_ ?_ _) | (with_reducible refine After.out _ ?_ ?_) | (dsimp only; omega) | omega | (simp only [World.size_alloc, World.size_setCell, World.size_drew]; omega))))⟩
              case measure => first | (simp [intOf]; done) | (simp [intOf]; omega) | omega
    · obtain rfl : k = L.length := by omega
      go_wp2_with fail
      go_ret
      exact .mk (by rw [← hfull.out]; rfl) (by (repeat (first | (with_reducible exact Below.refl _ _) | (with_reducible assumption) | (with_reducible refine Later.out _ ?_) | (with_reducible refine bel_alloc ?_ _) | (with_reducible refine bel_drew ?_) | (with_reducible refine bel_drewN ?_ _) | (with_reducible refine bel_set ?_ ?_ _) | (with_reducible refine After.out _ ?_ ?_) | (dsimp only; omega) | omega | (simp only [World.size_alloc, World.size_setCell, World.size_drew]; omega))))
noncomputable def toldZ (L : List Clm) (p : ByteArray) (y : Int) : Int := if aboutZ L p y = 0 then (if consB L then 0 else 5) else aboutZ L p y
theorem told_pair {L : List Clm} {p : ByteArray} {y : Int} (h : toldZ L p y = 0) : NoPair L := by
  unfold toldZ at h
  by_cases h1 : aboutZ L p y = 0
  · rw [if_pos h1] at h
    cases h2 : consB L
    · rw [h2] at h; simp at h
    · exact (of_bof h2).1
  · rw [if_neg h1] at h; exact absurd h h1
section
variable (L : List Clm) (p : ByteArray) (y : Int) (a : Option Addr) (n c : Nat) (w : World) (hn : L.length = n) (hm : n ≤ 1048576) (hr : Row w a (clmsCells L)) (ok : ∀ c ∈ L, ClmOk c) (hp : p.size ≤ 1048576)
include hn hm hr ok hp
set_option maxHeartbeats 1000000 in
theorem toldCode_any (hcap : n ≤ c) (hx : Max w) : Calls Tryd.prog 35 #[.slice a n c, .string p, .int .i64 y] w (Ret w (.int .i64 (toldZ L p y))) := by
  have C1 := aboutCode_any L p y a n c w hn hm hr ok hp hx
  by_cases h : aboutZ L p y = 0
  · cases h2 : consB L
    · have X := Lib.hid (show toldZ L p y = 5 by simp [toldZ, h, h2])
      have C2 := Lib.hid (fun w hr => areConsistent_b (a := a) (c := c) (w := w) hn hm hcap hr h2)
      rw [h] at C1
      replace C1 := Lib.hid C1
      replace hr := Lib.hid hr
      clear ok h h2 hx
      go_enter Tryd.func35, Tryd.ntmps35
      go_wp2_with fail
      with_reducible refine (C1.out).mono ?_
      rintro e w' ⟨rfl, y1, rfl⟩
      have hsy1 := y1.bel.size
      (try simp only [World.size_alloc, World.size_setCell, World.size_drew] at hsy1)
      go_wp2_with fail
      with_reducible refine (C2.out _ (hr.out.bel (by (repeat (first | (with_reducible exact Below.refl _ _) | (with_reducible assumption) | (with_reducible refine Later.out _ ?_) | (with_reducible refine bel_alloc ?_ _) | (with_reducible refine bel_drew ?_) | (with_reducible refine bel_drewN ?_ _) | (with_reducible refine bel_set ?_ ?_ _) | (with_reducible refine After.out _ ?_ ?_) | (dsimp only; omega) | omega | (simp only [World.size_alloc, World.size_setCell, World.size_drew]; omega)))))).mono ?_
      rintro e w' ⟨rfl, y2, rfl⟩
      have hsy2 := y2.bel.size
      (try simp only [World.size_alloc, World.size_setCell, World.size_drew] at hsy2)
      go_wp2_with fail
      go_ret
      exact .mk (by rw [X.out]; rfl) (by (repeat (first | (with_reducible exact Below.refl _ _) | (with_reducible assumption) | (with_reducible refine Later.out _ ?_) | (with_reducible refine bel_alloc ?_ _) | (with_reducible refine bel_drew ?_) | (with_reducible refine bel_drewN ?_ _) | (with_reducible refine bel_set ?_ ?_ _) | (with_reducible refine After.out _ ?_ ?_) | (dsimp only; omega) | omega | (simp only [World.size_alloc, World.size_setCell, World.size_drew]; omega))))
    · have X := Lib.hid (show toldZ L p y = 0 by simp [toldZ, h, h2])
      have C2 := Lib.hid (fun w hr => areConsistent_b (a := a) (c := c) (w := w) hn hm hcap hr h2)
      rw [h] at C1
      replace C1 := Lib.hid C1
      replace hr := Lib.hid hr
      clear ok h h2 hx
      go_enter Tryd.func35, Tryd.ntmps35
      go_wp2_with fail
      with_reducible refine (C1.out).mono ?_
      rintro e w' ⟨rfl, y1, rfl⟩
      have hsy1 := y1.bel.size
      (try simp only [World.size_alloc, World.size_setCell, World.size_drew] at hsy1)
      go_wp2_with fail
      with_reducible refine (C2.out _ (hr.out.bel (by (repeat (first | (with_reducible exact Below.refl _ _) | (with_reducible assumption) | (with_reducible refine Later.out _ ?_) | (with_reducible refine bel_alloc ?_ _) | (with_reducible refine bel_drew ?_) | (with_reducible refine bel_drewN ?_ _) | (with_reducible refine bel_set ?_ ?_ _) | (with_reducible refine After.out _ ?_ ?_) | (dsimp only; omega) | omega | (simp only [World.size_alloc, World.size_setCell, World.size_drew]; omega)))))).mono ?_
      rintro e w' ⟨rfl, y2, rfl⟩
      have hsy2 := y2.bel.size
      (try simp only [World.size_alloc, World.size_setCell, World.size_drew] at hsy2)
      go_wp2_with fail
      go_ret
      exact .mk (by rw [X.out]; rfl) (by (repeat (first | (with_reducible exact Below.refl _ _) | (with_reducible assumption) | (with_reducible refine Later.out _ ?_) | (with_reducible refine bel_alloc ?_ _) | (with_reducible refine bel_drew ?_) | (with_reducible refine bel_drewN ?_ _) | (with_reducible refine bel_set ?_ ?_ _) | (with_reducible refine After.out _ ?_ ?_) | (dsimp only; omega) | omega | (simp only [World.size_alloc, World.size_setCell, World.size_drew]; omega))))
  · have X := Lib.hid (show toldZ L p y = aboutZ L p y by simp [toldZ, h])
    obtain ⟨k, hk0⟩ : ∃ k, aboutZ L p y = k := ⟨_, rfl⟩
    rw [hk0] at C1 X h
    have hk : (k == 0) = false := by simpa using h
    have hk' : (k != 0) = true := by simpa using h
    replace C1 := Lib.hid C1
    clear ok hr hk0 h hx
    go_enter Tryd.func35, Tryd.ntmps35
    go_wp2_with fail
    with_reducible refine (C1.out).mono ?_
    rintro e w' ⟨rfl, y1, rfl⟩
    have hsy1 := y1.bel.size
    (try simp only [World.size_alloc, World.size_setCell, World.size_drew] at hsy1)
    go_wp2_with fail
    go_ret
    exact .mk (by rw [X.out]; rfl) (by (repeat (first | (with_reducible exact Below.refl _ _) | (with_reducible assumption) | (with_reducible refine Later.out _ ?_) | (with_reducible refine bel_alloc ?_ _) | (with_reducible refine bel_drew ?_) | (with_reducible refine bel_drewN ?_ _) | (with_reducible refine bel_set ?_ ?_ _) | (with_reducible refine After.out _ ?_ ?_) | (dsimp only; omega) | omega | (simp only [World.size_alloc, World.size_setCell, World.size_drew]; omega))))
set_option maxHeartbeats 1000000 in
theorem sTold_any : Calls Tryd.prog 33 #[.slice a n c, .string p, .int .i64 y] w (Ret w (.int .i64 (toldZ L p y))) := by
  have C1 := sAboutCode_any L p y a n c w hn hm hr ok hp
  by_cases h : aboutZ L p y = 0
  · cases h2 : consB L
    · have X := Lib.hid (show toldZ L p y = 5 by simp [toldZ, h, h2])
      have C2 := Lib.hid (fun w hr => sCons_b (a := a) (c := c) (w := w) hn hm hr (named_of fun c hc => claim_of_claims (aboutZ_claims h).1 hc) h2)
      rw [h] at C1
      replace C1 := Lib.hid C1
      replace hr := Lib.hid hr
      clear ok h h2
      go_enter Tryd.func33, Tryd.ntmps33
      go_wp2_with fail
      with_reducible refine (C1.out).mono ?_
      rintro e w' ⟨rfl, y1, rfl⟩
      have hsy1 := y1.bel.size
      (try simp only [World.size_alloc, World.size_setCell, World.size_drew] at hsy1)
      go_wp2_with fail
      with_reducible refine (C2.out _ (hr.out.bel (by (repeat (first | (with_reducible exact Below.refl _ _) | (with_reducible assumption) | (with_reducible refine Later.out _ ?_) | (with_reducible refine bel_alloc ?_ _) | (with_reducible refine bel_drew ?_) | (with_reducible refine bel_drewN ?_ _) | (with_reducible refine bel_set ?_ ?_ _) | (with_reducible refine After.out _ ?_ ?_) | (dsimp only; omega) | omega | (simp only [World.size_alloc, World.size_setCell, World.size_drew]; omega)))))).mono ?_
      rintro e w' ⟨rfl, y2, rfl⟩
      have hsy2 := y2.bel.size
      (try simp only [World.size_alloc, World.size_setCell, World.size_drew] at hsy2)
      go_wp2_with fail
      go_ret
      exact .mk (by rw [X.out]; rfl) (by (repeat (first | (with_reducible exact Below.refl _ _) | (with_reducible assumption) | (with_reducible refine Later.out _ ?_) | (with_reducible refine bel_alloc ?_ _) | (with_reducible refine bel_drew ?_) | (with_reducible refine bel_drewN ?_ _) | (with_reducible refine bel_set ?_ ?_ _) | (with_reducible refine After.out _ ?_ ?_) | (dsimp only; omega) | omega | (simp only [World.size_alloc, World.size_setCell, World.size_drew]; omega))))
    · have X := Lib.hid (show toldZ L p y = 0 by simp [toldZ, h, h2])
      have C2 := Lib.hid (fun w hr => sCons_b (a := a) (c := c) (w := w) hn hm hr (named_of fun c hc => claim_of_claims (aboutZ_claims h).1 hc) h2)
      rw [h] at C1
      replace C1 := Lib.hid C1
      replace hr := Lib.hid hr
      clear ok h h2
      go_enter Tryd.func33, Tryd.ntmps33
      go_wp2_with fail
      with_reducible refine (C1.out).mono ?_
      rintro e w' ⟨rfl, y1, rfl⟩
      have hsy1 := y1.bel.size
      (try simp only [World.size_alloc, World.size_setCell, World.size_drew] at hsy1)
      go_wp2_with fail
      with_reducible refine (C2.out _ (hr.out.bel (by (repeat (first | (with_reducible exact Below.refl _ _) | (with_reducible assumption) | (with_reducible refine Later.out _ ?_) | (with_reducible refine bel_alloc ?_ _) | (with_reducible refine bel_drew ?_) | (with_reducible refine bel_drewN ?_ _) | (with_reducible refine bel_set ?_ ?_ _) | (with_reducible refine After.out _ ?_ ?_) | (dsimp only; omega) | omega | (simp only [World.size_alloc, World.size_setCell, World.size_drew]; omega)))))).mono ?_
      rintro e w' ⟨rfl, y2, rfl⟩
      have hsy2 := y2.bel.size
      (try simp only [World.size_alloc, World.size_setCell, World.size_drew] at hsy2)
      go_wp2_with fail
      go_ret
      exact .mk (by rw [X.out]; rfl) (by (repeat (first | (with_reducible exact Below.refl _ _) | (with_reducible assumption) | (with_reducible refine Later.out _ ?_) | (with_reducible refine bel_alloc ?_ _) | (with_reducible refine bel_drew ?_) | (with_reducible refine bel_drewN ?_ _) | (with_reducible refine bel_set ?_ ?_ _) | (with_reducible refine After.out _ ?_ ?_) | (dsimp only; omega) | omega | (simp only [World.size_alloc, World.size_setCell, World.size_drew]; omega))))
  · have X := Lib.hid (show toldZ L p y = aboutZ L p y by simp [toldZ, h])
    obtain ⟨k, hk0⟩ : ∃ k, aboutZ L p y = k := ⟨_, rfl⟩
    rw [hk0] at C1 X h
    have hk : (k == 0) = false := by simpa using h
    have hk' : (k != 0) = true := by simpa using h
    replace C1 := Lib.hid C1
    clear ok hr hk0 h
    go_enter Tryd.func33, Tryd.ntmps33
    go_wp2_with fail
    with_reducible refine (C1.out).mono ?_
    rintro e w' ⟨rfl, y1, rfl⟩
    have hsy1 := y1.bel.size
    (try simp only [World.size_alloc, World.size_setCell, World.size_drew] at hsy1)
    go_wp2_with fail
    go_ret
    exact .mk (by rw [X.out]; rfl) (by (repeat (first | (with_reducible exact Below.refl _ _) | (with_reducible assumption) | (with_reducible refine Later.out _ ?_) | (with_reducible refine bel_alloc ?_ _) | (with_reducible refine bel_drew ?_) | (with_reducible refine bel_drewN ?_ _) | (with_reducible refine bel_set ?_ ?_ _) | (with_reducible refine After.out _ ?_ ?_) | (dsimp only; omega) | omega | (simp only [World.size_alloc, World.size_setCell, World.size_drew]; omega))))
end
noncomputable def exR (L : List Clm) (p : ByteArray) (y : Int) : Int := if toldZ L p y = 0 then exFst p y L else 0
section
variable (L : List Clm) (p : ByteArray) (y : Int) (a : Option Addr) (n c : Nat) (w : World) (hn : L.length = n) (hm : n ≤ 1048576) (hr : Row w a (clmsCells L)) (ok : ∀ c ∈ L, ClmOk c) (hp : p.size ≤ 1048576)
include hn hm hr ok hp
set_option maxHeartbeats 1000000 in
theorem ex_impl (hcap : n ≤ c) (hx : Max w) : Calls Tryd.prog 16 #[.slice a n c, .string p, .int .i64 y] w (Ret w (.tuple #[.int .i64 (exR L p y), .int .i64 (toldZ L p y)])) := by
  have C1 := toldCode_any L p y a n c w hn hm hr ok hp hcap hx
  by_cases h : toldZ L p y = 0
  · have X := Lib.hid (show exFst p y L = exR L p y by simp [exR, h])
    have C2 := Lib.hid (fun w hr => existsBy_any L p y a n c w hn hm hr)
    rw [h] at C1 ⊢
    replace C1 := Lib.hid C1
    replace hr := Lib.hid hr
    clear ok h hx
    go_enter Tryd.func16, Tryd.ntmps16
    go_wp2_with fail
    with_reducible refine (C1.out).mono ?_
    rintro e w' ⟨rfl, y1, rfl⟩
    have hsy1 := y1.bel.size
    (try simp only [World.size_alloc, World.size_setCell, World.size_drew] at hsy1)
    go_wp2_with fail
    with_reducible refine (C2.out _ (hr.out.bel (by (repeat (first | (with_reducible exact Below.refl _ _) | (with_reducible assumption) | (with_reducible refine Later.out _ ?_) | (with_reducible refine bel_alloc ?_ _) | (with_reducible refine bel_drew ?_) | (with_reducible refine bel_drewN ?_ _) | (with_reducible refine bel_set ?_ ?_ _) | (with_reducible refine After.out _ ?_ ?_) | (dsimp only; omega) | omega | (simp only [World.size_alloc, World.size_setCell, World.size_drew]; omega)))))).mono ?_
    rintro e w' ⟨rfl, y2, rfl⟩
    have hsy2 := y2.bel.size
    (try simp only [World.size_alloc, World.size_setCell, World.size_drew] at hsy2)
    go_wp2_with fail
    refine bodyPost_ret (by simp [results, Tryd.results16, go_sem, ↓IntWalk.iteOmega, *]; try rfl) rfl ?_
    exact .mk (by first | (rw [← X.out]; done) | (rw [← X.out]; rfl)) (by (repeat (first | (with_reducible exact Below.refl _ _) | (with_reducible assumption) | (with_reducible refine Later.out _ ?_) | (with_reducible refine bel_alloc ?_ _) | (with_reducible refine bel_drew ?_) | (with_reducible refine bel_drewN ?_ _) | (with_reducible refine bel_set ?_ ?_ _) | (with_reducible refine After.out _ ?_ ?_) | (dsimp only; omega) | omega | (simp only [World.size_alloc, World.size_setCell, World.size_drew]; omega))))
  · rw [show exR L p y = 0 by simp [exR, h]]
    generalize toldZ L p y = k at C1 h
    have hk : (k == 0) = false := by simpa using h
    have hk' : (k != 0) = true := by simpa using h
    replace C1 := Lib.hid C1
    clear ok hr hx
    go_enter Tryd.func16, Tryd.ntmps16
    go_wp2_with fail
    with_reducible refine (C1.out).mono ?_
    rintro e w' ⟨rfl, y1, rfl⟩
    have hsy1 := y1.bel.size
    (try simp only [World.size_alloc, World.size_setCell, World.size_drew] at hsy1)
    go_wp2_with fail
    refine bodyPost_ret (by simp [results, Tryd.results16, go_sem, ↓IntWalk.iteOmega, *]; try rfl) rfl ?_
    exact .mk rfl (by (repeat (first | (with_reducible exact Below.refl _ _) | (with_reducible assumption) | (with_reducible refine Later.out _ ?_) | (with_reducible refine bel_alloc ?_ _) | (with_reducible refine bel_drew ?_) | (with_reducible refine bel_drewN ?_ _) | (with_reducible refine bel_set ?_ ?_ _) | (with_reducible refine After.out _ ?_ ?_) | (dsimp only; omega) | omega | (simp only [World.size_alloc, World.size_setCell, World.size_drew]; omega))))
set_option maxHeartbeats 1000000 in
theorem ex_spec : Calls Tryd.prog 15 #[.slice a n c, .string p, .int .i64 y] w (Ret w (.tuple #[.int .i64 (exR L p y), .int .i64 (toldZ L p y)])) := by
  have C1 := sTold_any L p y a n c w hn hm hr ok hp
  by_cases h : toldZ L p y = 0
  · have X := Lib.hid (show exLst p y 0 L = exR L p y by simp [exR, h]; exact (exist_eq (told_pair h) p y).symm)
    have C2 := Lib.hid (fun w hr => sExists_any L p y a n c w hn hm hr)
    rw [h] at C1 ⊢
    replace C1 := Lib.hid C1
    replace hr := Lib.hid hr
    clear ok h
    go_enter Tryd.func15, Tryd.ntmps15
    go_wp2_with fail
    with_reducible refine (C1.out).mono ?_
    rintro e w' ⟨rfl, y1, rfl⟩
    have hsy1 := y1.bel.size
    (try simp only [World.size_alloc, World.size_setCell, World.size_drew] at hsy1)
    go_wp2_with fail
    with_reducible refine (C2.out _ (hr.out.bel (by (repeat (first | (with_reducible exact Below.refl _ _) | (with_reducible assumption) | (with_reducible refine Later.out _ ?_) | (with_reducible refine bel_alloc ?_ _) | (with_reducible refine bel_drew ?_) | (with_reducible refine bel_drewN ?_ _) | (with_reducible refine bel_set ?_ ?_ _) | (with_reducible refine After.out _ ?_ ?_) | (dsimp only; omega) | omega | (simp only [World.size_alloc, World.size_setCell, World.size_drew]; omega)))))).mono ?_
    rintro e w' ⟨rfl, y2, rfl⟩
    have hsy2 := y2.bel.size
    (try simp only [World.size_alloc, World.size_setCell, World.size_drew] at hsy2)
    go_wp2_with fail
    refine bodyPost_ret (by simp [results, Tryd.results15, go_sem, ↓IntWalk.iteOmega, *]; try rfl) rfl ?_
    exact .mk (by first | (rw [← X.out]; done) | (rw [← X.out]; rfl)) (by (repeat (first | (with_reducible exact Below.refl _ _) | (with_reducible assumption) | (with_reducible refine Later.out _ ?_) | (with_reducible refine bel_alloc ?_ _) | (with_reducible refine bel_drew ?_) | (with_reducible refine bel_drewN ?_ _) | (with_reducible refine bel_set ?_ ?_ _) | (with_reducible refine After.out _ ?_ ?_) | (dsimp only; omega) | omega | (simp only [World.size_alloc, World.size_setCell, World.size_drew]; omega))))
  · rw [show exR L p y = 0 by simp [exR, h]]
    generalize toldZ L p y = k at C1 h
    have hk : (k == 0) = false := by simpa using h
    have hk' : (k != 0) = true := by simpa using h
    replace C1 := Lib.hid C1
    clear ok hr
    go_enter Tryd.func15, Tryd.ntmps15
    go_wp2_with fail
    with_reducible refine (C1.out).mono ?_
    rintro e w' ⟨rfl, y1, rfl⟩
    have hsy1 := y1.bel.size
    (try simp only [World.size_alloc, World.size_setCell, World.size_drew] at hsy1)
    go_wp2_with fail
    refine bodyPost_ret (by simp [results, Tryd.results15, go_sem, ↓IntWalk.iteOmega, *]; try rfl) rfl ?_
    exact .mk rfl (by (repeat (first | (with_reducible exact Below.refl _ _) | (with_reducible assumption) | (with_reducible refine Later.out _ ?_) | (with_reducible refine bel_alloc ?_ _) | (with_reducible refine bel_drew ?_) | (with_reducible refine bel_drewN ?_ _) | (with_reducible refine bel_set ?_ ?_ _) | (with_reducible refine After.out _ ?_ ?_) | (dsimp only; omega) | omega | (simp only [World.size_alloc, World.size_setCell, World.size_drew]; omega))))
end
end Go.Proofs.YtaffphidfhacjaaDoor

import Derived.Test.YtcpddgkloeklaaaGreatDoorAbout
import Derived.Test.YtcpddgkloeklaaaGreatDoorCirc
/- Parents and circles by claims, both sides. -/
set_option linter.unusedSimpArgs false
set_option linter.unusedVariables false
namespace Go.Proofs.YtcpddgkloeklaaaGreatDoor
open Go.RowKit
theorem idxP_par (L : List Clm) (y : Int) (p : ByteArray) : (parOf L y p = none ∧ idxP (parP p y) L = -1) ∨ ∃ (k : Nat) (hk : k < L.length), parOf L y p = some L[k].val ∧ idxP (parP p y) L = k := by
  unfold idxP
  cases h : L.findIdx? (parP p y) with
  | none =>
    left
    rw [List.findIdx?_eq_none_iff] at h
    exact ⟨parOf_none h, rfl⟩
  | some i =>
    right
    rw [List.findIdx?_eq_some_iff_getElem] at h
    obtain ⟨hi, hp, hall⟩ := h
    exact ⟨i, hi, parOf_at hi hp fun j hj hji => by have := hall j hji; simpa using this, rfl⟩
set_option maxHeartbeats 1000000 in
theorem parent1_any (c : Clm) (p : ByteArray) (y : Int) (g1 g2 : Nat) (w : World) (h1 : w.cell? ⟨g1, 0, none⟩ = some (.string p)) (h2 : w.cell? ⟨g2, 0, none⟩ = some (.int .i64 y)) :
    Calls Tryz.prog 175 #[clmV c, .pointer (some ⟨g1, 0, none⟩), .pointer (some ⟨g2, 0, none⟩)] w (Ret w (.bool (parP p y c))) := by
  have b1 := World.block_lt_of_cell? w _ h1
  have b2 := World.block_lt_of_cell? w _ h2
  simp only at b1 b2
  by_cases k : c.kind = 1
  · have k1 : (c.kind == 1) = true := by simp [k]
    rcases sameB c.place p with ⟨e, e1⟩ | ⟨e, e1⟩
    · have X := Lib.hid (show parP p y c = inB y c.fr c.to by simp [parP, e, hasB_in, k])
      clear e k
      go_enter Tryz.func175, Tryz.ntmps175
      go_wp2_with fail
      with_reducible refine (has_any _ _ _ _).mono ?_
      rintro e w' ⟨rfl, y1, rfl⟩
      have hsy1 := y1.bel.size
      (try simp only [World.size_alloc, World.size_setCell, World.size_drew] at hsy1)
      go_wp2_with fail
      go_ret
      exact .mk (by rw [X.out]; rfl) (by (repeat (first | (with_reducible exact Below.refl _ _) | (with_reducible assumption) | (with_reducible refine Later.out _ ?_) | (with_reducible refine bel_alloc ?_ _) | (with_reducible refine bel_drew ?_) | (with_reducible refine bel_drewN ?_ _) | (with_reducible refine bel_set ?_ ?_ _) | (with_reducible refine After.out _ ?_ ?_) | (dsimp only; omega) | omega | (simp only [World.size_alloc, World.size_setCell, World.size_drew]; omega))))
    · have X := Lib.hid (show parP p y c = false by simp [parP, e])
      clear e k
      go_enter Tryz.func175, Tryz.ntmps175
      go_wp2_with fail
      go_ret
      exact .mk (by rw [X.out]; rfl) (by (repeat (first | (with_reducible exact Below.refl _ _) | (with_reducible assumption) | (with_reducible refine Later.out _ ?_) | (with_reducible refine bel_alloc ?_ _) | (with_reducible refine bel_drew ?_) | (with_reducible refine bel_drewN ?_ _) | (with_reducible refine bel_set ?_ ?_ _) | (with_reducible refine After.out _ ?_ ?_) | (dsimp only; omega) | omega | (simp only [World.size_alloc, World.size_setCell, World.size_drew]; omega))))
  · have k1 : (c.kind == 1) = false := by simp [k]
    have X := Lib.hid (show parP p y c = false by simp [parP, k])
    clear k
    go_enter Tryz.func175, Tryz.ntmps175
    go_wp2_with fail
    go_ret
    exact .mk (by rw [X.out]; rfl) (by (repeat (first | (with_reducible exact Below.refl _ _) | (with_reducible assumption) | (with_reducible refine Later.out _ ?_) | (with_reducible refine bel_alloc ?_ _) | (with_reducible refine bel_drew ?_) | (with_reducible refine bel_drewN ?_ _) | (with_reducible refine bel_set ?_ ?_ _) | (with_reducible refine After.out _ ?_ ?_) | (dsimp only; omega) | omega | (simp only [World.size_alloc, World.size_setCell, World.size_drew]; omega))))
theorem enters_parent1 : ∀ args w, (callFunc 175 args).run Tryz.prog w = .ok (.enter 175 args) w := fun _ _ => by kernel_rfl
theorem tells_parent {L : List Clm} {p : ByteArray} {y : Int} {g1 g2 : Nat} {w : World} (h1 : w.cell? ⟨g1, 0, none⟩ = some (.string p)) (h2 : w.cell? ⟨g2, 0, none⟩ = some (.int .i64 y)) :
    Tells 175 #[] #[.pointer (some ⟨g1, 0, none⟩), .pointer (some ⟨g2, 0, none⟩)] (parP p y) L w :=
  fun c _ w' hb => by
    have := parent1_any c p y g1 g2 w' ((hb.cell (World.block_lt_of_cell? w _ h1)).trans h1) ((hb.cell (World.block_lt_of_cell? w _ h2)).trans h2)
    simpa using this
section
variable {L : List Clm} {p : ByteArray} {y : Int} {a : Option Addr} {n c : Nat} {w : World} (hn : L.length = n) (hm : n ≤ 1048576) (hr : Row w a (clmsCells L))
include hn hm hr
set_option maxHeartbeats 1000000 in
theorem parent_none (h : parOf L y p = none) : Calls Tryz.prog 158 #[.slice a n c, .string p, .int .i64 y] w (Ret w (.tuple #[.string ByteArray.empty, .bool false])) := by
  have C := fun lb w hr hp => indexFunc_any 175 #[] lb (parP p y) L a n c w enters_parent1 hn hm hr hp
  rcases idxP_par L y p with ⟨h1, h2⟩ | ⟨k, hk, h1, h2⟩
  · rw [h2] at C
    replace C := Lib.hid C
    replace hr := Lib.hid hr
    clear h h1 h2 hn
    go_enter Tryz.func158, Tryz.ntmps158
    go_wp2_with fail
    with_reducible refine (C.out _ _ (hr.out.bel (by (repeat (first | (with_reducible exact Below.refl _ _) | (with_reducible assumption) | (with_reducible refine Later.out _ ?_) | (with_reducible refine bel_alloc ?_ _) | (with_reducible refine bel_drew ?_) | (with_reducible refine bel_drewN ?_ _) | (with_reducible refine bel_set ?_ ?_ _) | (with_reducible refine After.out _ ?_ ?_) | (dsimp only; omega) | omega | (simp only [World.size_alloc, World.size_setCell, World.size_drew]; omega))))) (by refine tells_parent ?_ ?_ <;> simp [go_sem, ↓IntWalk.iteOmega, *])).mono ?_
    rintro e w' ⟨rfl, y1, rfl⟩
    have hsy1 := y1.bel.size
    (try simp only [World.size_alloc, World.size_setCell, World.size_drew] at hsy1)
    go_wp2_with fail
    refine bodyPost_ret (by simp [results, Tryz.results158, go_sem, ↓IntWalk.iteOmega, *]; try rfl) rfl ?_
    exact .mk rfl (by (repeat (first | (with_reducible exact Below.refl _ _) | (with_reducible assumption) | (with_reducible refine Later.out _ ?_) | (with_reducible refine bel_alloc ?_ _) | (with_reducible refine bel_drew ?_) | (with_reducible refine bel_drewN ?_ _) | (with_reducible refine bel_set ?_ ?_ _) | (with_reducible refine After.out _ ?_ ?_) | (dsimp only; omega) | omega | (simp only [World.size_alloc, World.size_setCell, World.size_drew]; omega))))
  · rw [h] at h1; cases h1
set_option maxHeartbeats 1000000 in
theorem parent_some {v : ByteArray} (h : parOf L y p = some v) : Calls Tryz.prog 158 #[.slice a n c, .string p, .int .i64 y] w (Ret w (.tuple #[.string v, .bool true])) := by
  have C := fun lb w hr hp => indexFunc_any 175 #[] lb (parP p y) L a n c w enters_parent1 hn hm hr hp
  rcases idxP_par L y p with ⟨h1, h2⟩ | ⟨k, hk, h1, h2⟩
  · rw [h] at h1; cases h1
  · rw [h] at h1
    have hv := Option.some.inj h1
    rw [h2] at C
    obtain ⟨b, o, rfl, hb, q0, q1, q2, q3, q4, q5, q6⟩ := hr.clm hk
    rw [← hv] at q3
    have hkn : (k : Int) < (n : Int) := by omega
    have hkn2 : k < n := by omega
    replace C := Lib.hid C
    replace hr := Lib.hid hr
    clear h h1 h2 hn hk hv q0 q1 q2 q4 q5 q6
    go_enter Tryz.func158, Tryz.ntmps158
    go_wp2_with fail
    with_reducible refine (C.out _ _ (hr.out.bel (by (repeat (first | (with_reducible exact Below.refl _ _) | (with_reducible assumption) | (with_reducible refine Later.out _ ?_) | (with_reducible refine bel_alloc ?_ _) | (with_reducible refine bel_drew ?_) | (with_reducible refine bel_drewN ?_ _) | (with_reducible refine bel_set ?_ ?_ _) | (with_reducible refine After.out _ ?_ ?_) | (dsimp only; omega) | omega | (simp only [World.size_alloc, World.size_setCell, World.size_drew]; omega))))) (by refine tells_parent ?_ ?_ <;> simp [go_sem, ↓IntWalk.iteOmega, *])).mono ?_
    rintro e w' ⟨rfl, y1, rfl⟩
    have hsy1 := y1.bel.size
    (try simp only [World.size_alloc, World.size_setCell, World.size_drew] at hsy1)
    go_wp2_with fail
    refine bodyPost_ret (by simp [results, Tryz.results158, go_sem, ↓IntWalk.iteOmega, *]; try rfl) rfl ?_
    exact .mk rfl (by (repeat (first | (with_reducible exact Below.refl _ _) | (with_reducible assumption) | (with_reducible refine Later.out _ ?_) | (with_reducible refine bel_alloc ?_ _) | (with_reducible refine bel_drew ?_) | (with_reducible refine bel_drewN ?_ _) | (with_reducible refine bel_set ?_ ?_ _) | (with_reducible refine After.out _ ?_ ?_) | (dsimp only; omega) | omega | (simp only [World.size_alloc, World.size_setCell, World.size_drew]; omega))))
end
/-- The reference's parent: the empty text if there is none. -/
def parS (L : List Clm) (y : Int) (p : ByteArray) : ByteArray := (parOf L y p).getD ByteArray.empty
set_option maxRecDepth 4000 in
set_option maxHeartbeats 2000000 in
theorem sParent_any (L : List Clm) (y : Int) (p : ByteArray) (a : Option Addr) (n c : Nat) (w : World) (hn : L.length = n) (hm : n ≤ 1048576) (hr : Row w a (clmsCells L)) :
    Calls Tryz.prog 134 #[.slice a n c, .string p, .int .i64 y] w (Ret w (.string (parS L y p))) := by
  subst hn
  replace hr := Lib.hid hr
  go_enter Tryz.func134, Tryz.ntmps134
  go_wp2_with fail
  go_loopw [7] (fun i wr => ∃ k : Nat, k ≤ L.length ∧ i = .int .i64 k ∧ (∀ j (hj : j < L.length), j < k → parP p y L[j] = false) ∧ ∃ z : Later w, wr = z.w) (fun i _ => L.length - (intOf i).toNat)
  case atStart => exact ⟨0, Nat.zero_le _, rfl, fun j _ h => absurd h (by omega), ⟨_, Below.refl _ _⟩, rfl⟩
  case round =>
    obtain ⟨k, hk, rfl, hall, z, rfl⟩ := hrel
    replace hall := Lib.hid hall
    have hzz := z.bel.size
    by_cases hlt : k < L.length
    · obtain ⟨b, o, rfl, hb, q0, q1, q2, q3, q4, q5, q6⟩ := hr.out.clm hlt
      have hno := fun h : parP p y L[k] = false => (show ∀ j (hj : j < L.length), j < k + 1 → parP p y L[j] = false from fun j hj h1 => by
        rcases Nat.lt_or_ge j k with h2 | h2
        · exact hall.out j hj h2
        · obtain rfl : j = k := by omega
          exact h)
      by_cases e : L[k].kind = 1
      · have k1 : (L[k].kind == 1) = true := by simp [e]
        rcases sameB L[k].place p with ⟨e2, e1⟩ | ⟨e2, e1⟩
        · cases hv : inB y L[k].fr L[k].to
          · have X := Lib.hid (hno (by simp [parP, hasB_in, hv]))
            replace hv := Lib.hid hv
            clear e e2 hno
            go_wp2_with fail
            with_reducible refine (l01In_b _ hv.out).mono ?_
            rintro e w' ⟨rfl, y1, rfl⟩
            have hsy1 := y1.bel.size
            (try simp only [World.size_alloc, World.size_setCell, World.size_drew] at hsy1)
            go_wp2_with fail
            go_roundw
            case rel => exact ⟨k + 1, by omega, by go_num, X.out, LaterC.mk (by (repeat (first | (with_reducible exact Below.refl _ _) | (with_reducible assumption) | (with_reducible refine Later.out _ ?_) | (with_reducible refine bel_alloc ?_ _) | (with_reducible refine bel_drew ?_) | (with_reducible refine bel_drewN ?_ _) | (with_reducible refine bel_set ?_ ?_ _) | (with_reducible refine After.out _ ?_ ?_) | (dsimp only; omega) | omega | (simp only [World.size_alloc, World.size_setCell, World.size_drew]; omega))))⟩
            case measure => first | (simp [intOf]; done) | (simp [intOf]; omega) | omega
          · have X := Lib.hid (show parS L y p = L[k].val by
              unfold parS
              rw [parOf_at hlt (by simp [parP, hasB_in, hv, e, e2]) fun j hj hjk => hall.out j hj hjk]
              rfl)
            replace hv := Lib.hid hv
            clear e e2 hno
            go_wp2_with fail
            with_reducible refine (l01In_b _ hv.out).mono ?_
            rintro e w' ⟨rfl, y1, rfl⟩
            have hsy1 := y1.bel.size
            (try simp only [World.size_alloc, World.size_setCell, World.size_drew] at hsy1)
            go_wp2_with fail
            go_ret
            exact .mk (by rw [X.out]; rfl) (by (repeat (first | (with_reducible exact Below.refl _ _) | (with_reducible assumption) | (with_reducible refine Later.out _ ?_) | (with_reducible refine bel_alloc ?_ _) | (with_reducible refine bel_drew ?_) | (with_reducible refine bel_drewN ?_ _) | (with_reducible refine bel_set ?_ ?_ _) | (with_reducible refine After.out _ ?_ ?_) | (dsimp only; omega) | omega | (simp only [World.size_alloc, World.size_setCell, World.size_drew]; omega))))
        · have X := Lib.hid (hno (by simp [parP, e2]))
          clear e e2 hno
          go_wp2_with fail
          go_roundw
          case rel => exact ⟨k + 1, by omega, by go_num, X.out, LaterC.mk (by (repeat (first | (with_reducible exact Below.refl _ _) | (with_reducible assumption) | (with_reducible refine Later.out _ ?_) | (with_reducible refine bel_alloc ?_ _) | (with_reducible refine bel_drew ?_) | (with_reducible refine bel_drewN ?_ _) | (with_reducible refine bel_set ?_ ?_ _) | (with_reducible refine After.out _ ?_ ?_) | (dsimp only; omega) | omega | (simp only [World.size_alloc, World.size_setCell, World.size_drew]; omega))))⟩
          case measure => first | (simp [intOf]; done) | (simp [intOf]; omega) | omega
      · have k1 : (L[k].kind == 1) = false := by simp [e]
        have X := Lib.hid (hno (by simp [parP, e]))
        clear e hno
        go_wp2_with fail
        go_roundw
        case rel => exact ⟨k + 1, by omega, by go_num, X.out, LaterC.mk (by (repeat (first | (with_reducible exact Below.refl _ _) | (with_reducible assumption) | (with_reducible refine Later.out _ ?_) | (with_reducible refine bel_alloc ?_ _) | (with_reducible refine bel_drew ?_) | (with_reducible refine bel_drewN ?_ _) | (with_reducible refine bel_set ?_ ?_ _) | (with_reducible refine After.out _ ?_ ?_) | (dsimp only; omega) | omega | (simp only [World.size_alloc, World.size_setCell, World.size_drew]; omega))))⟩
        case measure => first | (simp [intOf]; done) | (simp [intOf]; omega) | omega
    · obtain rfl : k = L.length := by omega
      have X := Lib.hid (show parS L y p = ByteArray.empty by
        unfold parS
        rw [parOf_none fun c hc => by
          obtain ⟨j, hj, rfl⟩ := List.mem_iff_getElem.1 hc
          exact hall.out j hj hj]
        rfl)
      go_wp2_with fail
      go_ret
      exact .mk (by rw [X.out]; rfl) (by (repeat (first | (with_reducible exact Below.refl _ _) | (with_reducible assumption) | (with_reducible refine Later.out _ ?_) | (with_reducible refine bel_alloc ?_ _) | (with_reducible refine bel_drew ?_) | (with_reducible refine bel_drewN ?_ _) | (with_reducible refine bel_set ?_ ?_ _) | (with_reducible refine After.out _ ?_ ?_) | (dsimp only; omega) | omega | (simp only [World.size_alloc, World.size_setCell, World.size_drew]; omega))))
/-! ### Texts in lists -/
/-- The first place of a text, -1 if there is none. -/
def idxS (x : ByteArray) (O : List ByteArray) : Int := match O.findIdx? (fun y => decide (y = x)) with
  | some i => i
  | none => -1
theorem idxS_none {x : ByteArray} {O : List ByteArray} (h : ∀ j (hj : j < O.length), O[j] ≠ x) : idxS x O = -1 := by
  have : O.findIdx? (fun y => decide (y = x)) = none := by
    rw [List.findIdx?_eq_none_iff]
    intro z hz
    obtain ⟨j, hj, rfl⟩ := List.mem_iff_getElem.1 hz
    simpa using h j hj
  simp [idxS, this]
theorem idxS_some {x : ByteArray} {O : List ByteArray} {k : Nat} (hk : k < O.length) (h1 : O[k] = x) (h : ∀ j (hj : j < O.length), j < k → O[j] ≠ x) : idxS x O = k := by
  have : O.findIdx? (fun y => decide (y = x)) = some k := by
    rw [List.findIdx?_eq_some_iff_getElem]
    exact ⟨hk, by simpa using h1, fun j hj => by simpa using h j (by omega) hj⟩
  simp [idxS, this]
theorem idxS_cases (x : ByteArray) (O : List ByteArray) : (x ∈ O ∧ 0 ≤ idxS x O) ∨ (¬ x ∈ O ∧ idxS x O = -1) := by
  unfold idxS
  cases h : O.findIdx? (fun y => decide (y = x)) with
  | none =>
    right
    rw [List.findIdx?_eq_none_iff] at h
    exact ⟨fun hx => by simpa using h x hx, rfl⟩
  | some i =>
    left
    rw [List.findIdx?_eq_some_iff_getElem] at h
    obtain ⟨hi, hp, _⟩ := h
    have : O[i] = x := by simpa using hp
    exact ⟨this ▸ List.getElem_mem hi, by simp⟩
theorem Row.str {w : World} {a : Option Addr} {O : List ByteArray} (h : Row w a (strCells O)) {k : Nat} (hk : k < O.length) : ∃ b o, a = some ⟨b, o, none⟩ ∧ b < w.heap.size ∧ w.cell? ⟨b, o + k, none⟩ = some (.string O[k]) := by
  obtain ⟨b, o, rfl, hc⟩ := h k _ (strCells_get hk)
  exact ⟨b, o, rfl, World.block_lt_of_cell? w _ hc, hc⟩
set_option maxRecDepth 4000 in
set_option maxHeartbeats 1000000 in
theorem indexStr_any (x : ByteArray) (O : List ByteArray) (a : Option Addr) (n c : Nat) (w : World) (hn : O.length = n) (hm : n ≤ 1048577) (hr : Row w a (strCells O)) :
    Calls Tryz.prog 155 #[.slice a n c, .string x] w (Ret w (.int .i64 (idxS x O))) := by
  subst hn
  replace hr := Lib.hid hr
  go_enter Tryz.func155, Tryz.ntmps155
  go_wp2_with fail
  go_loopw [8] (fun i wr => ∃ k : Nat, k ≤ O.length ∧ i = .int .i64 k ∧ (∀ j (hj : j < O.length), j < k → O[j] ≠ x) ∧ ∃ z : Later w, wr = z.w) (fun i _ => O.length - (intOf i).toNat)
  case atStart => exact ⟨0, Nat.zero_le _, rfl, fun j _ h => absurd h (by omega), ⟨_, Below.refl _ _⟩, rfl⟩
  case round =>
    obtain ⟨k, hk, rfl, hall, z, rfl⟩ := hrel
    replace hall := Lib.hid hall
    by_cases hlt : k < O.length
    · obtain ⟨b, o, rfl, hb, q⟩ := hr.out.str hlt
      rcases sameB x O[k] with ⟨e2, e1⟩ | ⟨e2, e1⟩
      · have X := Lib.hid (idxS_some hlt e2.symm hall.out)
        clear e2
        go_wp2_with fail
        go_ret
        exact .mk (by rw [X.out]; rfl) (by (repeat (first | (with_reducible exact Below.refl _ _) | (with_reducible assumption) | (with_reducible refine Later.out _ ?_) | (with_reducible refine bel_alloc ?_ _) | (with_reducible refine bel_drew ?_) | (with_reducible refine bel_drewN ?_ _) | (with_reducible refine bel_set ?_ ?_ _) | (with_reducible refine After.out _ ?_ ?_) | (dsimp only; omega) | omega | (simp only [World.size_alloc, World.size_setCell, World.size_drew]; omega))))
      · have X := Lib.hid (show ∀ j (hj : j < O.length), j < k + 1 → O[j] ≠ x from fun j hj h1 => by
          rcases Nat.lt_or_ge j k with h2 | h2
          · exact hall.out j hj h2
          · obtain rfl : j = k := by omega
            exact e2.symm)
        clear e2
        go_wp2_with fail
        go_roundw
        case rel => exact ⟨k + 1, by omega, by go_num, X.out, LaterC.mk (by (repeat (first | (with_reducible exact Below.refl _ _) | (with_reducible assumption) | (with_reducible refine Later.out _ ?_) | (with_reducible refine bel_alloc ?_ _) | (with_reducible refine bel_drew ?_) | (with_reducible refine bel_drewN ?_ _) | (with_reducible refine bel_set ?_ ?_ _) | (with_reducible refine After.out _ ?_ ?_) | (dsimp only; omega) | omega | (simp only [World.size_alloc, World.size_setCell, World.size_drew]; omega))))⟩
        case measure => first | (simp [intOf]; done) | (simp [intOf]; omega) | omega
    · obtain rfl : k = O.length := by omega
      have X := Lib.hid (idxS_none fun j hj => hall.out j hj hj)
      go_wp2_with fail
      go_ret
      exact .mk (by rw [X.out]; rfl) (by (repeat (first | (with_reducible exact Below.refl _ _) | (with_reducible assumption) | (with_reducible refine Later.out _ ?_) | (with_reducible refine bel_alloc ?_ _) | (with_reducible refine bel_drew ?_) | (with_reducible refine bel_drewN ?_ _) | (with_reducible refine bel_set ?_ ?_ _) | (with_reducible refine After.out _ ?_ ?_) | (dsimp only; omega) | omega | (simp only [World.size_alloc, World.size_setCell, World.size_drew]; omega))))
theorem containsStr_any (x : ByteArray) (O : List ByteArray) (a : Option Addr) (n c : Nat) (w : World) (hn : O.length = n) (hm : n ≤ 1048577) (hr : Row w a (strCells O)) :
    Calls Tryz.prog 127 #[.slice a n c, .string x] w (Ret w (.bool (decide (0 ≤ idxS x O)))) := by
  replace hr := Lib.hid hr
  replace hn := Lib.hid hn
  go_enter Tryz.func127, Tryz.ntmps127
  go_wp2_with fail
  with_reducible refine (indexStr_any x O _ _ _ _ hn.out hm hr.out).mono ?_
  rintro e w' ⟨rfl, y1, rfl⟩
  have hsy1 := y1.bel.size
  (try simp only [World.size_alloc, World.size_setCell, World.size_drew] at hsy1)
  go_wp2_with fail
  go_ret
  exact .mk rfl (by (repeat (first | (with_reducible exact Below.refl _ _) | (with_reducible assumption) | (with_reducible refine Later.out _ ?_) | (with_reducible refine bel_alloc ?_ _) | (with_reducible refine bel_drew ?_) | (with_reducible refine bel_drewN ?_ _) | (with_reducible refine bel_set ?_ ?_ _) | (with_reducible refine After.out _ ?_ ?_) | (dsimp only; omega) | omega | (simp only [World.size_alloc, World.size_setCell, World.size_drew]; omega))))
theorem containsStr_b {x : ByteArray} {O : List ByteArray} {a : Option Addr} {n c : Nat} {w : World} {b : Bool} (hn : O.length = n) (hm : n ≤ 1048577) (hr : Row w a (strCells O)) (h : decide (0 ≤ idxS x O) = b) :
    Calls Tryz.prog 127 #[.slice a n c, .string x] w (Ret w (.bool b)) := by subst h; exact containsStr_any x O a n c w hn hm hr
set_option maxRecDepth 4000 in
set_option maxHeartbeats 1000000 in
theorem l03Find_any (x : ByteArray) (O : List ByteArray) (a : Option Addr) (n c : Nat) (w : World) (hn : O.length = n) (hm : n ≤ 1048577) (hr : Row w a (strCells O)) :
    Calls Tryz.prog 133 #[.slice a n c, .string x] w (Ret w (.int .i64 (idxS x O))) := by
  subst hn
  replace hr := Lib.hid hr
  go_enter Tryz.func133, Tryz.ntmps133
  go_wp2_with fail
  go_loopw [5] (fun i wr => ∃ k : Nat, k ≤ O.length ∧ i = .int .i64 k ∧ (∀ j (hj : j < O.length), j < k → O[j] ≠ x) ∧ ∃ z : Later w, wr = z.w) (fun i _ => O.length - (intOf i).toNat)
  case atStart => exact ⟨0, Nat.zero_le _, rfl, fun j _ h => absurd h (by omega), ⟨_, Below.refl _ _⟩, rfl⟩
  case round =>
    obtain ⟨k, hk, rfl, hall, z, rfl⟩ := hrel
    replace hall := Lib.hid hall
    by_cases hlt : k < O.length
    · obtain ⟨b, o, rfl, hb, q⟩ := hr.out.str hlt
      rcases sameB O[k] x with ⟨e2, e1⟩ | ⟨e2, e1⟩
      · have X := Lib.hid (idxS_some hlt e2 hall.out)
        clear e2
        go_wp2_with fail
        go_ret
        exact .mk (by rw [X.out]; rfl) (by (repeat (first | (with_reducible exact Below.refl _ _) | (with_reducible assumption) | (with_reducible refine Later.out _ ?_) | (with_reducible refine bel_alloc ?_ _) | (with_reducible refine bel_drew ?_) | (with_reducible refine bel_drewN ?_ _) | (with_reducible refine bel_set ?_ ?_ _) | (with_reducible refine After.out _ ?_ ?_) | (dsimp only; omega) | omega | (simp only [World.size_alloc, World.size_setCell, World.size_drew]; omega))))
      · have X := Lib.hid (show ∀ j (hj : j < O.length), j < k + 1 → O[j] ≠ x from fun j hj h1 => by
          rcases Nat.lt_or_ge j k with h2 | h2
          · exact hall.out j hj h2
          · obtain rfl : j = k := by omega
            exact e2)
        clear e2
        go_wp2_with fail
        go_roundw
        case rel => exact ⟨k + 1, by omega, by go_num, X.out, LaterC.mk (by (repeat (first | (with_reducible exact Below.refl _ _) | (with_reducible assumption) | (with_reducible refine Later.out _ ?_) | (with_reducible refine bel_alloc ?_ _) | (with_reducible refine bel_drew ?_) | (with_reducible refine bel_drewN ?_ _) | (with_reducible refine bel_set ?_ ?_ _) | (with_reducible refine After.out _ ?_ ?_) | (dsimp only; omega) | omega | (simp only [World.size_alloc, World.size_setCell, World.size_drew]; omega))))⟩
        case measure => first | (simp [intOf]; done) | (simp [intOf]; omega) | omega
    · obtain rfl : k = O.length := by omega
      have X := Lib.hid (idxS_none fun j hj => hall.out j hj hj)
      go_wp2_with fail
      go_ret
      exact .mk (by rw [X.out]; rfl) (by (repeat (first | (with_reducible exact Below.refl _ _) | (with_reducible assumption) | (with_reducible refine Later.out _ ?_) | (with_reducible refine bel_alloc ?_ _) | (with_reducible refine bel_drew ?_) | (with_reducible refine bel_drewN ?_ _) | (with_reducible refine bel_set ?_ ?_ _) | (with_reducible refine After.out _ ?_ ?_) | (dsimp only; omega) | omega | (simp only [World.size_alloc, World.size_setCell, World.size_drew]; omega))))
end Go.Proofs.YtcpddgkloeklaaaGreatDoor

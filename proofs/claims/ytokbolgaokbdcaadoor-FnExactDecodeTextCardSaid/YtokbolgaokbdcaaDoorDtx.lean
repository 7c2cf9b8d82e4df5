import Derived.Test.YtokbolgaokbdcaaDoorDecP
import Derived.Test.YtokbolgaokbdcaaDoorRmn
import Derived.Test.YtokbolgaokbdcaaDoorPln
/- DecodeText and IsRecovered, both sides. -/
set_option linter.unusedSimpArgs false
set_option linter.unusedVariables false
namespace Go.Proofs.YtokbolgaokbdcaaDoor
open Go.RowKit
noncomputable def dtC (T : List Rul) (s : ByteArray) : Int := if textB T s then (if plainB T then (if dcK T s then 0 else 4) else 5) else 1
noncomputable def dtL (T : List Rul) (s : ByteArray) : List Int := if dtC T s = 0 then dcL T s else []
theorem textB_sizes {T : List Rul} {s : ByteArray} (h : textB T s = true) : tableB T = true ∧ s.size ≤ 48 := by
  unfold textB smallB at h
  simp only [Bool.and_eq_true, inB_iff] at h
  exact ⟨h.1, by omega⟩
theorem dtL_len (T : List Rul) (s : ByteArray) : (dtL T s).length ≤ 144 := by
  unfold dtL
  split
  · rename_i h
    have hb : textB T s = true := by
      cases hb : textB T s
      · simp [dtC, hb] at h
      · rfl
    obtain ⟨h1, h2⟩ := textB_sizes hb
    exact dcL_len h1 h2
  · simp
set_option maxRecDepth 8000 in
set_option maxHeartbeats 4000000 in
theorem decode_impl (T : List Rul) (s : ByteArray) (a : Option Addr) (n c : Nat) (w : World) (hn : T.length = n) (hm : n ≤ 1048576) (hnc : n ≤ c) (hcm : c ≤ maxLen) (hok : ∀ r ∈ T, RulOk r) (hs : s.size ≤ 1048576) (hr : RulesR w a T) :
    Calls Tryd.prog 23 #[.slice a n c, .string s] w (RetOwn w 2 1 (dtL T s).length (intCells (dtL T s)) fun v => .tuple #[v, .int .i64 (dtC T s)]) := by
  have CC := fun (w : World) (hr : RulesR w a T) => textCode_any T s a n c w hn hm hnc hcm hok hs hr
  cases hb : textB T s
  · rw [show dtL T s = [] by simp [dtL, dtC, hb], show dtC T s = 1 by simp [dtC, hb]]
    rw [hb] at CC
    rw [show (if (false : Bool) = true then (0 : Int) else 1) = 1 from rfl] at CC
    replace CC := Lib.hid CC
    replace hr := Lib.hid hr
    clear hok hb
    go_enter Tryd.func23, Tryd.ntmps23
    go_wp2_with fail
    with_reducible refine (CC.out _ (hr.out.bel (by (repeat (first | (with_reducible exact Below.refl _ _) | (with_reducible assumption) | (with_reducible refine Later.out _ ?_) | (with_reducible refine bel_alloc ?_ _) | (with_reducible refine bel_drew ?_) | (with_reducible refine bel_drewN ?_ _) | (with_reducible refine bel_set ?_ ?_ _) | (with_reducible refine After.out _ ?_ ?_) | (dsimp only; omega) | omega | (simp only [World.size_alloc, World.size_setCell, World.size_drew]; omega)))))).mono ?_
    rintro e w' ⟨rfl, y1, rfl⟩
    have hsy1 := y1.bel.size
    (try simp only [World.size_alloc, World.size_setCell, World.size_drew] at hsy1)
    go_wp2_with fail
    refine bodyPost_ret (by simp [results, Tryd.results23, go_sem, ↓IntWalk.iteOmega, *]; try rfl) rfl ?_
    exact RetOwn.mk (.slice none 0 0) rfl (World.ownsRow_nil _ _ _ _) (by (repeat (first | (with_reducible exact Below.refl _ _) | (with_reducible assumption) | (with_reducible refine Later.out _ ?_) | (with_reducible refine bel_alloc ?_ _) | (with_reducible refine bel_drew ?_) | (with_reducible refine bel_drewN ?_ _) | (with_reducible refine bel_set ?_ ?_ _) | (with_reducible refine After.out _ ?_ ?_) | (dsimp only; omega) | omega | (simp only [World.size_alloc, World.size_setCell, World.size_drew]; omega))))
  · obtain ⟨hT, hs48⟩ := textB_sizes hb
    have CP := fun (w : World) (hr : RulesR w a T) => plain_impl T a n c w hn hm hT hr
    have CD := fun (w : World) (hr : RulesR w a T) => decode_any T s a n c w hn hT hok hs48 hr
    rw [hb] at CC
    rw [show (if (true : Bool) = true then (0 : Int) else 1) = 0 from rfl] at CC
    cases hp : plainB T
    · rw [show dtL T s = [] by simp [dtL, dtC, hb, hp], show dtC T s = 5 by simp [dtC, hb, hp]]
      rw [hp] at CP
      replace CC := Lib.hid CC
      replace CP := Lib.hid CP
      replace hr := Lib.hid hr
      clear hok hb hp CD hT
      go_enter Tryd.func23, Tryd.ntmps23
      go_wp2_with fail
      with_reducible refine (CC.out _ (hr.out.bel (by (repeat (first | (with_reducible exact Below.refl _ _) | (with_reducible assumption) | (with_reducible refine Later.out _ ?_) | (with_reducible refine bel_alloc ?_ _) | (with_reducible refine bel_drew ?_) | (with_reducible refine bel_drewN ?_ _) | (with_reducible refine bel_set ?_ ?_ _) | (with_reducible refine After.out _ ?_ ?_) | (dsimp only; omega) | omega | (simp only [World.size_alloc, World.size_setCell, World.size_drew]; omega)))))).mono ?_
      rintro e w' ⟨rfl, y1, rfl⟩
      have hsy1 := y1.bel.size
      (try simp only [World.size_alloc, World.size_setCell, World.size_drew] at hsy1)
      go_wp2_with fail
      with_reducible refine (CP.out _ (hr.out.bel (by (repeat (first | (with_reducible exact Below.refl _ _) | (with_reducible assumption) | (with_reducible refine Later.out _ ?_) | (with_reducible refine bel_alloc ?_ _) | (with_reducible refine bel_drew ?_) | (with_reducible refine bel_drewN ?_ _) | (with_reducible refine bel_set ?_ ?_ _) | (with_reducible refine After.out _ ?_ ?_) | (dsimp only; omega) | omega | (simp only [World.size_alloc, World.size_setCell, World.size_drew]; omega)))))).mono ?_
      rintro e w' ⟨rfl, y2, rfl⟩
      have hsy2 := y2.bel.size
      (try simp only [World.size_alloc, World.size_setCell, World.size_drew] at hsy2)
      go_wp2_with fail
      refine bodyPost_ret (by simp [results, Tryd.results23, go_sem, ↓IntWalk.iteOmega, *]; try rfl) rfl ?_
      exact RetOwn.mk (.slice none 0 0) rfl (World.ownsRow_nil _ _ _ _) (by (repeat (first | (with_reducible exact Below.refl _ _) | (with_reducible assumption) | (with_reducible refine Later.out _ ?_) | (with_reducible refine bel_alloc ?_ _) | (with_reducible refine bel_drew ?_) | (with_reducible refine bel_drewN ?_ _) | (with_reducible refine bel_set ?_ ?_ _) | (with_reducible refine After.out _ ?_ ?_) | (dsimp only; omega) | omega | (simp only [World.size_alloc, World.size_setCell, World.size_drew]; omega))))
    rw [hp] at CP
    cases hk : dcK T s
    · rw [show dtL T s = [] by simp [dtL, dtC, hb, hp, hk], show dtC T s = 4 by simp [dtC, hb, hp, hk]]
      rw [hk] at CD
      obtain ⟨d, hd⟩ : ∃ d, dcL T s = d := ⟨_, rfl⟩
      simp only [hd] at CD
      replace CC := Lib.hid CC
      replace CP := Lib.hid CP
      replace CD := Lib.hid CD
      replace hr := Lib.hid hr
      clear hok hb hp hT hk hd
      go_enter Tryd.func23, Tryd.ntmps23
      go_wp2_with fail
      with_reducible refine (CC.out _ (hr.out.bel (by (repeat (first | (with_reducible exact Below.refl _ _) | (with_reducible assumption) | (with_reducible refine Later.out _ ?_) | (with_reducible refine bel_alloc ?_ _) | (with_reducible refine bel_drew ?_) | (with_reducible refine bel_drewN ?_ _) | (with_reducible refine bel_set ?_ ?_ _) | (with_reducible refine After.out _ ?_ ?_) | (dsimp only; omega) | omega | (simp only [World.size_alloc, World.size_setCell, World.size_drew]; omega)))))).mono ?_
      rintro e w' ⟨rfl, y1, rfl⟩
      have hsy1 := y1.bel.size
      (try simp only [World.size_alloc, World.size_setCell, World.size_drew] at hsy1)
      go_wp2_with fail
      with_reducible refine (CP.out _ (hr.out.bel (by (repeat (first | (with_reducible exact Below.refl _ _) | (with_reducible assumption) | (with_reducible refine Later.out _ ?_) | (with_reducible refine bel_alloc ?_ _) | (with_reducible refine bel_drew ?_) | (with_reducible refine bel_drewN ?_ _) | (with_reducible refine bel_set ?_ ?_ _) | (with_reducible refine After.out _ ?_ ?_) | (dsimp only; omega) | omega | (simp only [World.size_alloc, World.size_setCell, World.size_drew]; omega)))))).mono ?_
      rintro e w' ⟨rfl, y2, rfl⟩
      have hsy2 := y2.bel.size
      (try simp only [World.size_alloc, World.size_setCell, World.size_drew] at hsy2)
      go_wp2_with fail
      with_reducible refine (CD.out _ (hr.out.bel (by (repeat (first | (with_reducible exact Below.refl _ _) | (with_reducible assumption) | (with_reducible refine Later.out _ ?_) | (with_reducible refine bel_alloc ?_ _) | (with_reducible refine bel_drew ?_) | (with_reducible refine bel_drewN ?_ _) | (with_reducible refine bel_set ?_ ?_ _) | (with_reducible refine After.out _ ?_ ?_) | (dsimp only; omega) | omega | (simp only [World.size_alloc, World.size_setCell, World.size_drew]; omega)))))).mono ?_
      rintro e w' ⟨a3, c3, rfl, hown, y3, rfl⟩
      have hsy3 := y3.bel.size
      (try simp only [World.size_alloc, World.size_setCell, World.size_drew] at hsy3)
      have O3 := Lib.hid (Owns.of hown)
      clear hown
      go_wp2_with fail
      refine bodyPost_ret (by simp [results, Tryd.results23, go_sem, ↓IntWalk.iteOmega, *]; try rfl) rfl ?_
      exact RetOwn.mk (.slice none 0 0) rfl (World.ownsRow_nil _ _ _ _) (by (repeat (first | (with_reducible exact Below.refl _ _) | (with_reducible assumption) | (with_reducible refine Later.out _ ?_) | (with_reducible refine bel_alloc ?_ _) | (with_reducible refine bel_drew ?_) | (with_reducible refine bel_drewN ?_ _) | (with_reducible refine bel_set ?_ ?_ _) | (with_reducible refine After.out _ ?_ ?_) | (dsimp only; omega) | omega | (simp only [World.size_alloc, World.size_setCell, World.size_drew]; omega))))
    · rw [show dtL T s = dcL T s by simp [dtL, dtC, hb, hp, hk], show dtC T s = 0 by simp [dtC, hb, hp, hk]]
      rw [hk] at CD
      obtain ⟨d, hd⟩ : ∃ d, dcL T s = d := ⟨_, rfl⟩
      simp only [hd] at CD ⊢
      replace CC := Lib.hid CC
      replace CP := Lib.hid CP
      replace CD := Lib.hid CD
      replace hr := Lib.hid hr
      clear hok hb hp hT hk hd
      skip
      go_enter Tryd.func23, Tryd.ntmps23
      go_wp2_with fail
      with_reducible refine (CC.out _ (hr.out.bel (by (repeat (first | (with_reducible exact Below.refl _ _) | (with_reducible assumption) | (with_reducible refine Later.out _ ?_) | (with_reducible refine bel_alloc ?_ _) | (with_reducible refine bel_drew ?_) | (with_reducible refine bel_drewN ?_ _) | (with_reducible refine bel_set ?_ ?_ _) | (with_reducible refine After.out _ ?_ ?_) | (dsimp only; omega) | omega | (simp only [World.size_alloc, World.size_setCell, World.size_drew]; omega)))))).mono ?_
      rintro e w' ⟨rfl, y1, rfl⟩
      have hsy1 := y1.bel.size
      (try simp only [World.size_alloc, World.size_setCell, World.size_drew] at hsy1)
      go_wp2_with fail
      with_reducible refine (CP.out _ (hr.out.bel (by (repeat (first | (with_reducible exact Below.refl _ _) | (with_reducible assumption) | (with_reducible refine Later.out _ ?_) | (with_reducible refine bel_alloc ?_ _) | (with_reducible refine bel_drew ?_) | (with_reducible refine bel_drewN ?_ _) | (with_reducible refine bel_set ?_ ?_ _) | (with_reducible refine After.out _ ?_ ?_) | (dsimp only; omega) | omega | (simp only [World.size_alloc, World.size_setCell, World.size_drew]; omega)))))).mono ?_
      rintro e w' ⟨rfl, y2, rfl⟩
      have hsy2 := y2.bel.size
      (try simp only [World.size_alloc, World.size_setCell, World.size_drew] at hsy2)
      go_wp2_with fail
      with_reducible refine (CD.out _ (hr.out.bel (by (repeat (first | (with_reducible exact Below.refl _ _) | (with_reducible assumption) | (with_reducible refine Later.out _ ?_) | (with_reducible refine bel_alloc ?_ _) | (with_reducible refine bel_drew ?_) | (with_reducible refine bel_drewN ?_ _) | (with_reducible refine bel_set ?_ ?_ _) | (with_reducible refine After.out _ ?_ ?_) | (dsimp only; omega) | omega | (simp only [World.size_alloc, World.size_setCell, World.size_drew]; omega)))))).mono ?_
      rintro e w' ⟨a3, c3, rfl, hown, y3, rfl⟩
      have hsy3 := y3.bel.size
      (try simp only [World.size_alloc, World.size_setCell, World.size_drew] at hsy3)
      have O3 := Lib.hid (Owns.of hown)
      clear hown
      go_wp2_with fail
      refine bodyPost_ret (by simp [results, Tryd.results23, go_sem, ↓IntWalk.iteOmega, *]; try rfl) rfl ?_
      exact RetOwn.mk _ rfl (own_mono O3.out.own (by ((try simp only [World.size_alloc, World.size_setCell, World.size_drew]); omega))) (by (repeat (first | (with_reducible exact Below.refl _ _) | (with_reducible assumption) | (with_reducible refine Later.out _ ?_) | (with_reducible refine bel_alloc ?_ _) | (with_reducible refine bel_drew ?_) | (with_reducible refine bel_drewN ?_ _) | (with_reducible refine bel_set ?_ ?_ _) | (with_reducible refine After.out _ ?_ ?_) | (dsimp only; omega) | omega | (simp only [World.size_alloc, World.size_setCell, World.size_drew]; omega))))
set_option maxRecDepth 8000 in
set_option maxHeartbeats 4000000 in
theorem decode_spec (T : List Rul) (s : ByteArray) (a : Option Addr) (n c : Nat) (w : World) (hn : T.length = n) (hm : n ≤ 1048576) (hok : ∀ r ∈ T, RulOk r) (hs : s.size ≤ 1048576) (hr : RulesR w a T) :
    Calls Tryd.prog 22 #[.slice a n c, .string s] w (RetOwn w 2 1 (dtL T s).length (intCells (dtL T s)) fun v => .tuple #[v, .int .i64 (dtC T s)]) := by
  have CC := fun (w : World) (hr : RulesR w a T) => sCode_any T s a n c w hn hm hok hs hr
  cases hb : textB T s
  · rw [show dtL T s = [] by simp [dtL, dtC, hb], show dtC T s = 1 by simp [dtC, hb]]
    rw [hb] at CC
    rw [show (if (false : Bool) = true then (0 : Int) else 1) = 1 from rfl] at CC
    replace CC := Lib.hid CC
    replace hr := Lib.hid hr
    clear hok hb
    go_enter Tryd.func22, Tryd.ntmps22
    go_wp2_with fail
    with_reducible refine (CC.out _ (hr.out.bel (by (repeat (first | (with_reducible exact Below.refl _ _) | (with_reducible assumption) | (with_reducible refine Later.out _ ?_) | (with_reducible refine bel_alloc ?_ _) | (with_reducible refine bel_drew ?_) | (with_reducible refine bel_drewN ?_ _) | (with_reducible refine bel_set ?_ ?_ _) | (with_reducible refine After.out _ ?_ ?_) | (dsimp only; omega) | omega | (simp only [World.size_alloc, World.size_setCell, World.size_drew]; omega)))))).mono ?_
    rintro e w' ⟨rfl, y1, rfl⟩
    have hsy1 := y1.bel.size
    (try simp only [World.size_alloc, World.size_setCell, World.size_drew] at hsy1)
    go_wp2_with fail
    refine bodyPost_ret (by simp [results, Tryd.results22, go_sem, ↓IntWalk.iteOmega, *]; try rfl) rfl ?_
    exact RetOwn.mk (.slice none 0 0) rfl (World.ownsRow_nil _ _ _ _) (by (repeat (first | (with_reducible exact Below.refl _ _) | (with_reducible assumption) | (with_reducible refine Later.out _ ?_) | (with_reducible refine bel_alloc ?_ _) | (with_reducible refine bel_drew ?_) | (with_reducible refine bel_drewN ?_ _) | (with_reducible refine bel_set ?_ ?_ _) | (with_reducible refine After.out _ ?_ ?_) | (dsimp only; omega) | omega | (simp only [World.size_alloc, World.size_setCell, World.size_drew]; omega))))
  · obtain ⟨hT, hs48⟩ := textB_sizes hb
    have CP := fun (w : World) (hr : RulesR w a T) => plain_spec T a n c w hn hm hT hr
    have CD := fun (w : World) (hr : RulesR w a T) => sDecode_any T s a n c w hn hT hok hs48 hr
    rw [hb] at CC
    rw [show (if (true : Bool) = true then (0 : Int) else 1) = 0 from rfl] at CC
    cases hp : plainB T
    · rw [show dtL T s = [] by simp [dtL, dtC, hb, hp], show dtC T s = 5 by simp [dtC, hb, hp]]
      rw [hp] at CP
      replace CC := Lib.hid CC
      replace CP := Lib.hid CP
      replace hr := Lib.hid hr
      clear hok hb hp CD hT
      go_enter Tryd.func22, Tryd.ntmps22
      go_wp2_with fail
      with_reducible refine (CC.out _ (hr.out.bel (by (repeat (first | (with_reducible exact Below.refl _ _) | (with_reducible assumption) | (with_reducible refine Later.out _ ?_) | (with_reducible refine bel_alloc ?_ _) | (with_reducible refine bel_drew ?_) | (with_reducible refine bel_drewN ?_ _) | (with_reducible refine bel_set ?_ ?_ _) | (with_reducible refine After.out _ ?_ ?_) | (dsimp only; omega) | omega | (simp only [World.size_alloc, World.size_setCell, World.size_drew]; omega)))))).mono ?_
      rintro e w' ⟨rfl, y1, rfl⟩
      have hsy1 := y1.bel.size
      (try simp only [World.size_alloc, World.size_setCell, World.size_drew] at hsy1)
      go_wp2_with fail
      with_reducible refine (CP.out _ (hr.out.bel (by (repeat (first | (with_reducible exact Below.refl _ _) | (with_reducible assumption) | (with_reducible refine Later.out _ ?_) | (with_reducible refine bel_alloc ?_ _) | (with_reducible refine bel_drew ?_) | (with_reducible refine bel_drewN ?_ _) | (with_reducible refine bel_set ?_ ?_ _) | (with_reducible refine After.out _ ?_ ?_) | (dsimp only; omega) | omega | (simp only [World.size_alloc, World.size_setCell, World.size_drew]; omega)))))).mono ?_
      rintro e w' ⟨rfl, y2, rfl⟩
      have hsy2 := y2.bel.size
      (try simp only [World.size_alloc, World.size_setCell, World.size_drew] at hsy2)
      go_wp2_with fail
      refine bodyPost_ret (by simp [results, Tryd.results22, go_sem, ↓IntWalk.iteOmega, *]; try rfl) rfl ?_
      exact RetOwn.mk (.slice none 0 0) rfl (World.ownsRow_nil _ _ _ _) (by (repeat (first | (with_reducible exact Below.refl _ _) | (with_reducible assumption) | (with_reducible refine Later.out _ ?_) | (with_reducible refine bel_alloc ?_ _) | (with_reducible refine bel_drew ?_) | (with_reducible refine bel_drewN ?_ _) | (with_reducible refine bel_set ?_ ?_ _) | (with_reducible refine After.out _ ?_ ?_) | (dsimp only; omega) | omega | (simp only [World.size_alloc, World.size_setCell, World.size_drew]; omega))))
    rw [hp] at CP
    cases hk : dcK T s
    · rw [show dtL T s = [] by simp [dtL, dtC, hb, hp, hk], show dtC T s = 4 by simp [dtC, hb, hp, hk]]
      unfold RetDec at CD; rw [hk] at CD
      have hd := Lib.hid hk
      skip
      replace CC := Lib.hid CC
      replace CP := Lib.hid CP
      replace CD := Lib.hid CD
      replace hr := Lib.hid hr
      clear hok hb hp hT hk hd
      go_enter Tryd.func22, Tryd.ntmps22
      go_wp2_with fail
      with_reducible refine (CC.out _ (hr.out.bel (by (repeat (first | (with_reducible exact Below.refl _ _) | (with_reducible assumption) | (with_reducible refine Later.out _ ?_) | (with_reducible refine bel_alloc ?_ _) | (with_reducible refine bel_drew ?_) | (with_reducible refine bel_drewN ?_ _) | (with_reducible refine bel_set ?_ ?_ _) | (with_reducible refine After.out _ ?_ ?_) | (dsimp only; omega) | omega | (simp only [World.size_alloc, World.size_setCell, World.size_drew]; omega)))))).mono ?_
      rintro e w' ⟨rfl, y1, rfl⟩
      have hsy1 := y1.bel.size
      (try simp only [World.size_alloc, World.size_setCell, World.size_drew] at hsy1)
      go_wp2_with fail
      with_reducible refine (CP.out _ (hr.out.bel (by (repeat (first | (with_reducible exact Below.refl _ _) | (with_reducible assumption) | (with_reducible refine Later.out _ ?_) | (with_reducible refine bel_alloc ?_ _) | (with_reducible refine bel_drew ?_) | (with_reducible refine bel_drewN ?_ _) | (with_reducible refine bel_set ?_ ?_ _) | (with_reducible refine After.out _ ?_ ?_) | (dsimp only; omega) | omega | (simp only [World.size_alloc, World.size_setCell, World.size_drew]; omega)))))).mono ?_
      rintro e w' ⟨rfl, y2, rfl⟩
      have hsy2 := y2.bel.size
      (try simp only [World.size_alloc, World.size_setCell, World.size_drew] at hsy2)
      go_wp2_with fail
      with_reducible refine (CD.out _ (hr.out.bel (by (repeat (first | (with_reducible exact Below.refl _ _) | (with_reducible assumption) | (with_reducible refine Later.out _ ?_) | (with_reducible refine bel_alloc ?_ _) | (with_reducible refine bel_drew ?_) | (with_reducible refine bel_drewN ?_ _) | (with_reducible refine bel_set ?_ ?_ _) | (with_reducible refine After.out _ ?_ ?_) | (dsimp only; omega) | omega | (simp only [World.size_alloc, World.size_setCell, World.size_drew]; omega)))))).mono ?_
      rintro e w' ⟨a3, c3, S, rfl, hown, hS, y3, rfl⟩
      have hs3 := y3.bel.size
      have O3 := Lib.hid (Owns.of hown)
      replace hS := Lib.hid hS
      clear hown
      go_wp2_with fail
      refine bodyPost_ret (by simp [results, Tryd.results22, go_sem, ↓IntWalk.iteOmega, *]; try rfl) rfl ?_
      exact RetOwn.mk (.slice none 0 0) rfl (World.ownsRow_nil _ _ _ _) (by (repeat (first | (with_reducible exact Below.refl _ _) | (with_reducible assumption) | (with_reducible refine Later.out _ ?_) | (with_reducible refine bel_alloc ?_ _) | (with_reducible refine bel_drew ?_) | (with_reducible refine bel_drewN ?_ _) | (with_reducible refine bel_set ?_ ?_ _) | (with_reducible refine After.out _ ?_ ?_) | (dsimp only; omega) | omega | (simp only [World.size_alloc, World.size_setCell, World.size_drew]; omega))))
    · rw [show dtL T s = dcL T s by simp [dtL, dtC, hb, hp, hk], show dtC T s = 0 by simp [dtC, hb, hp, hk]]
      unfold RetDec at CD; rw [hk] at CD
      obtain ⟨d, hd⟩ : ∃ d, dcL T s = d := ⟨_, rfl⟩
      simp only [hd] at CD ⊢
      replace CC := Lib.hid CC
      replace CP := Lib.hid CP
      replace CD := Lib.hid CD
      replace hr := Lib.hid hr
      replace hk := Lib.hid (show (true : Bool) = true from rfl)
      clear hok hb hp hT hd
      go_enter Tryd.func22, Tryd.ntmps22
      go_wp2_with fail
      with_reducible refine (CC.out _ (hr.out.bel (by (repeat (first | (with_reducible exact Below.refl _ _) | (with_reducible assumption) | (with_reducible refine Later.out _ ?_) | (with_reducible refine bel_alloc ?_ _) | (with_reducible refine bel_drew ?_) | (with_reducible refine bel_drewN ?_ _) | (with_reducible refine bel_set ?_ ?_ _) | (with_reducible refine After.out _ ?_ ?_) | (dsimp only; omega) | omega | (simp only [World.size_alloc, World.size_setCell, World.size_drew]; omega)))))).mono ?_
      rintro e w' ⟨rfl, y1, rfl⟩
      have hsy1 := y1.bel.size
      (try simp only [World.size_alloc, World.size_setCell, World.size_drew] at hsy1)
      go_wp2_with fail
      with_reducible refine (CP.out _ (hr.out.bel (by (repeat (first | (with_reducible exact Below.refl _ _) | (with_reducible assumption) | (with_reducible refine Later.out _ ?_) | (with_reducible refine bel_alloc ?_ _) | (with_reducible refine bel_drew ?_) | (with_reducible refine bel_drewN ?_ _) | (with_reducible refine bel_set ?_ ?_ _) | (with_reducible refine After.out _ ?_ ?_) | (dsimp only; omega) | omega | (simp only [World.size_alloc, World.size_setCell, World.size_drew]; omega)))))).mono ?_
      rintro e w' ⟨rfl, y2, rfl⟩
      have hsy2 := y2.bel.size
      (try simp only [World.size_alloc, World.size_setCell, World.size_drew] at hsy2)
      go_wp2_with fail
      with_reducible refine (CD.out _ (hr.out.bel (by (repeat (first | (with_reducible exact Below.refl _ _) | (with_reducible assumption) | (with_reducible refine Later.out _ ?_) | (with_reducible refine bel_alloc ?_ _) | (with_reducible refine bel_drew ?_) | (with_reducible refine bel_drewN ?_ _) | (with_reducible refine bel_set ?_ ?_ _) | (with_reducible refine After.out _ ?_ ?_) | (dsimp only; omega) | omega | (simp only [World.size_alloc, World.size_setCell, World.size_drew]; omega)))))).mono ?_
      rintro e w' ⟨a3, c3, S, rfl, hown, hS, y3, rfl⟩
      have hs3 := y3.bel.size
      have O3 := Lib.hid (Owns.of hown)
      replace hS := Lib.hid hS
      clear hown
      have e := hS.out hk.out
      subst e
      go_wp2_with fail
      refine bodyPost_ret (by simp [results, Tryd.results22, go_sem, ↓IntWalk.iteOmega, *]; try rfl) rfl ?_
      exact RetOwn.mk _ rfl (own_mono O3.out.own (by ((try simp only [World.size_alloc, World.size_setCell, World.size_drew]); omega))) (by (repeat (first | (with_reducible exact Below.refl _ _) | (with_reducible assumption) | (with_reducible refine Later.out _ ?_) | (with_reducible refine bel_alloc ?_ _) | (with_reducible refine bel_drew ?_) | (with_reducible refine bel_drewN ?_ _) | (with_reducible refine bel_set ?_ ?_ _) | (with_reducible refine After.out _ ?_ ?_) | (dsimp only; omega) | omega | (simp only [World.size_alloc, World.size_setCell, World.size_drew]; omega))))
end Go.Proofs.YtokbolgaokbdcaaDoor

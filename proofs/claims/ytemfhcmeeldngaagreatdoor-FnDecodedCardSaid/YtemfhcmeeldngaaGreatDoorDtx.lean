import Derived.Test.YtemfhcmeeldngaaGreatDoorDecP
import Derived.Test.YtemfhcmeeldngaaGreatDoorRmn
import Derived.Test.YtemfhcmeeldngaaGreatDoorPln
/- DecodeText and IsRecovered, both sides. -/
set_option linter.unusedSimpArgs false
set_option linter.unusedVariables false
namespace Go.Proofs.YtemfhcmeeldngaaGreatDoor
open Go.RowKit
noncomputable def dtC (T : List Rul) (s : ByteArray) : Int := if textB T s then (if plainB T then (if dcK T s then 0 else 4) else 5) else 1
noncomputable def dtL (T : List Rul) (s : ByteArray) : List Int := if dtC T s = 0 then dcL T s else []
theorem textB_sizes {T : List Rul} {s : ByteArray} (h : textB T s = true) : tableB T = true ∧ s.size ≤ 48 := by
  unfold textB smallB at h
  simp only [Bool.and_eq_true, inB_iff] at h
  exact ⟨h.1, by omega⟩
noncomputable def irC (T : List Rul) (s : List Int) : Int := if ruC T s = 0 then (if plainB T then 0 else 5) else ruC T s
noncomputable def irB (T : List Rul) (s : List Int) : Bool := decide (irC T s = 0) && dcK T (ruT T s) && (dcL T (ruT T s) == s)
theorem ruC_tab {T : List Rul} {s : List Int} (h : ruC T s = 0) : tableB T = true := by
  cases hT : tableB T
  · simp [ruC, hT] at h
  · rfl
theorem dtL_len (T : List Rul) (s : ByteArray) : (dtL T s).length ≤ 144 := by
  unfold dtL
  split
  · rename_i h
    have hb : textB T s = true := by
      cases hb : textB T s
      · simp [dtC, hb] at h
      · rfl
    obtain ⟨h1, h2⟩ := textB_sizes hb
    exact dcL_len h1 h2
  · simp
set_option maxRecDepth 8000 in
set_option maxHeartbeats 4000000 in
theorem decode_impl (T : List Rul) (s : ByteArray) (a : Option Addr) (n c : Nat) (w : World) (hn : T.length = n) (hm : n ≤ 1048576) (hnc : n ≤ c) (hcm : c ≤ maxLen) (hok : ∀ r ∈ T, RulOk r) (hs : s.size ≤ 1048576) (hr : RulesR w a T) :
    Calls Tryz.prog 9 #[.slice a n c, .string s] w (RetOwn w 2 1 (dtL T s).length (intCells (dtL T s)) fun v => .tuple #[v, .int .i64 (dtC T s)]) := by
  have CC := fun (w : World) (hr : RulesR w a T) => textCode_any T s a n c w hn hm hnc hcm hok hs hr
  cases hb : textB T s
  · rw [show dtL T s = [] by simp [dtL, dtC, hb], show dtC T s = 1 by simp [dtC, hb]]
    rw [hb] at CC
    rw [show (if (false : Bool) = true then (0 : Int) else 1) = 1 from rfl] at CC
    replace CC := Lib.hid CC
    replace hr := Lib.hid hr
    clear hok hb
    go_enter Tryz.func9, Tryz.ntmps9
    go_wp2_with fail
    with_reducible refine (CC.out _ (hr.out.bel (by (repeat (first | (with_reducible exact Below.refl _ _) | (with_reducible assumption) | (with_reducible refine Later.out _ ?_) | (with_reducible refine bel_alloc ?_ _) | (with_reducible refine bel_drew ?_) | (with_reducible refine bel_drewN ?_ _) | (with_reducible refine bel_set ?_ ?_ _) | (with_reducible refine After.out _ ?_ ?_) | (dsimp only; omega) | omega | (simp only [World.size_alloc, World.size_setCell, World.size_drew]; omega)))))).mono ?_
    rintro e w' ⟨rfl, y1, rfl⟩
    have hsy1 := y1.bel.size
    (try simp only [World.size_alloc, World.size_setCell, World.size_drew] at hsy1)
    go_wp2_with fail
    refine bodyPost_ret (by simp [results, Tryz.results9, go_sem, ↓IntWalk.iteOmega, *]; try rfl) rfl ?_
    exact RetOwn.mk (.slice none 0 0) rfl (World.ownsRow_nil _ _ _ _) (by (repeat (first | (with_reducible exact Below.refl _ _) | (with_reducible assumption) | (with_reducible refine Later.out _ ?_) | (with_reducible refine bel_alloc ?_ _) | (with_reducible refine bel_drew ?_) | (with_reducible refine bel_drewN ?_ _) | (with_reducible refine bel_set ?_ ?_ _) | (with_reducible refine After.out _ ?_ ?_) | (dsimp only; omega) | omega | (simp only [World.size_alloc, World.size_setCell, World.size_drew]; omega))))
  · obtain ⟨hT, hs48⟩ := textB_sizes hb
    have CP := fun (w : World) (hr : RulesR w a T) => plain_impl T a n c w hn hm hT hr
    have CD := fun (w : World) (hr : RulesR w a T) => decode_any T s a n c w hn hT hok hs48 hr
    rw [hb] at CC
    rw [show (if (true : Bool) = true then (0 : Int) else 1) = 0 from rfl] at CC
    cases hp : plainB T
    · rw [show dtL T s = [] by simp [dtL, dtC, hb, hp], show dtC T s = 5 by simp [dtC, hb, hp]]
      rw [hp] at CP
      replace CC := Lib.hid CC
      replace CP := Lib.hid CP
      replace hr := Lib.hid hr
      clear hok hb hp CD hT
      go_enter Tryz.func9, Tryz.ntmps9
      go_wp2_with fail
      with_reducible refine (CC.out _ (hr.out.bel (by (repeat (first | (with_reducible exact Below.refl _ _) | (with_reducible assumption) | (with_reducible refine Later.out _ ?_) | (with_reducible refine bel_alloc ?_ _) | (with_reducible refine bel_drew ?_) | (with_reducible refine bel_drewN ?_ _) | (with_reducible refine bel_set ?_ ?_ _) | (with_reducible refine After.out _ ?_ ?_) | (dsimp only; omega) | omega | (simp only [World.size_alloc, World.size_setCell, World.size_drew]; omega)))))).mono ?_
      rintro e w' ⟨rfl, y1, rfl⟩
      have hsy1 := y1.bel.size
      (try simp only [World.size_alloc, World.size_setCell, World.size_drew] at hsy1)
      go_wp2_with fail
      with_reducible refine (CP.out _ (hr.out.bel (by (repeat (first | (with_reducible exact Below.refl _ _) | (with_reducible assumption) | (with_reducible refine Later.out _ ?_) | (with_reducible refine bel_alloc ?_ _) | (with_reducible refine bel_drew ?_) | (with_reducible refine bel_drewN ?_ _) | (with_reducible refine bel_set ?_ ?_ _) | (with_reducible refine After.out _ ?_ ?_) | (dsimp only; omega) | omega | (simp only [World.size_alloc, World.size_setCell, World.size_drew]; omega)))))).mono ?_
      rintro e w' ⟨rfl, y2, rfl⟩
      have hsy2 := y2.bel.size
      (try simp only [World.size_alloc, World.size_setCell, World.size_drew] at hsy2)
      go_wp2_with fail
      refine bodyPost_ret (by simp [results, Tryz.results9, go_sem, ↓IntWalk.iteOmega, *]; try rfl) rfl ?_
      exact RetOwn.mk (.slice none 0 0) rfl (World.ownsRow_nil _ _ _ _) (by (repeat (first | (with_reducible exact Below.refl _ _) | (with_reducible assumption) | (with_reducible refine Later.out _ ?_) | (with_reducible refine bel_alloc ?_ _) | (with_reducible refine bel_drew ?_) | (with_reducible refine bel_drewN ?_ _) | (with_reducible refine bel_set ?_ ?_ _) | (with_reducible refine After.out _ ?_ ?_) | (dsimp only; omega) | omega | (simp only [World.size_alloc, World.size_setCell, World.size_drew]; omega))))
    rw [hp] at CP
    cases hk : dcK T s
    · rw [show dtL T s = [] by simp [dtL, dtC, hb, hp, hk], show dtC T s = 4 by simp [dtC, hb, hp, hk]]
      rw [hk] at CD
      obtain ⟨d, hd⟩ : ∃ d, dcL T s = d := ⟨_, rfl⟩
      simp only [hd] at CD
      replace CC := Lib.hid CC
      replace CP := Lib.hid CP
      replace CD := Lib.hid CD
      replace hr := Lib.hid hr
      clear hok hb hp hT hk hd
      go_enter Tryz.func9, Tryz.ntmps9
      go_wp2_with fail
      with_reducible refine (CC.out _ (hr.out.bel (by (repeat (first | (with_reducible exact Below.refl _ _) | (with_reducible assumption) | (with_reducible refine Later.out _ ?_) | (with_reducible refine bel_alloc ?_ _) | (with_reducible refine bel_drew ?_) | (with_reducible refine bel_drewN ?_ _) | (with_reducible refine bel_set ?_ ?_ _) | (with_reducible refine After.out _ ?_ ?_) | (dsimp only; omega) | omega | (simp only [World.size_alloc, World.size_setCell, World.size_drew]; omega)))))).mono ?_
      rintro e w' ⟨rfl, y1, rfl⟩
      have hsy1 := y1.bel.size
      (try simp only [World.size_alloc, World.size_setCell, World.size_drew] at hsy1)
      go_wp2_with fail
      with_reducible refine (CP.out _ (hr.out.bel (by (repeat (first | (with_reducible exact Below.refl _ _) | (with_reducible assumption) | (with_reducible refine Later.out _ ?_) | (with_reducible refine bel_alloc ?_ _) | (with_reducible refine bel_drew ?_) | (with_reducible refine bel_drewN ?_ _) | (with_reducible refine bel_set ?_ ?_ _) | (with_reducible refine After.out _ ?_ ?_) | (dsimp only; omega) | omega | (simp only [World.size_alloc, World.size_setCell, World.size_drew]; omega)))))).mono ?_
      rintro e w' ⟨rfl, y2, rfl⟩
      have hsy2 := y2.bel.size
      (try simp only [World.size_alloc, World.size_setCell, World.size_drew] at hsy2)
      go_wp2_with fail
      with_reducible refine (CD.out _ (hr.out.bel (by (repeat (first | (with_reducible exact Below.refl _ _) | (with_reducible assumption) | (with_reducible refine Later.out _ ?_) | (with_reducible refine bel_alloc ?_ _) | (with_reducible refine bel_drew ?_) | (with_reducible refine bel_drewN ?_ _) | (with_reducible refine bel_set ?_ ?_ _) | (with_reducible refine After.out _ ?_ ?_) | (dsimp only; omega) | omega | (simp only [World.size_alloc, World.size_setCell, World.size_drew]; omega)))))).mono ?_
      rintro e w' ⟨a3, c3, rfl, hown, y3, rfl⟩
      have hsy3 := y3.bel.size
      (try simp only [World.size_alloc, World.size_setCell, World.size_drew] at hsy3)
      have O3 := Lib.hid (Owns.of hown)
      clear hown
      go_wp2_with fail
      refine bodyPost_ret (by simp [results, Tryz.results9, go_sem, ↓IntWalk.iteOmega, *]; try rfl) rfl ?_
      exact RetOwn.mk (.slice none 0 0) rfl (World.ownsRow_nil _ _ _ _) (by (repeat (first | (with_reducible exact Below.refl _ _) | (with_reducible assumption) | (with_reducible refine Later.out _ ?_) | (with_reducible refine bel_alloc ?_ _) | (with_reducible refine bel_drew ?_) | (with_reducible refine bel_drewN ?_ _) | (with_reducible refine bel_set ?_ ?_ _) | (with_reducible refine After.out _ ?_ ?_) | (dsimp only; omega) | omega | (simp only [World.size_alloc, World.size_setCell, World.size_drew]; omega))))
    · rw [show dtL T s = dcL T s by simp [dtL, dtC, hb, hp, hk], show dtC T s = 0 by simp [dtC, hb, hp, hk]]
      rw [hk] at CD
      obtain ⟨d, hd⟩ : ∃ d, dcL T s = d := ⟨_, rfl⟩
      simp only [hd] at CD ⊢
      replace CC := Lib.hid CC
      replace CP := Lib.hid CP
      replace CD := Lib.hid CD
      replace hr := Lib.hid hr
      clear hok hb hp hT hk hd
      skip
      go_enter Tryz.func9, Tryz.ntmps9
      go_wp2_with fail
      with_reducible refine (CC.out _ (hr.out.bel (by (repeat (first | (with_reducible exact Below.refl _ _) | (with_reducible assumption) | (with_reducible refine Later.out _ ?_) | (with_reducible refine bel_alloc ?_ _) | (with_reducible refine bel_drew ?_) | (with_reducible refine bel_drewN ?_ _) | (with_reducible refine bel_set ?_ ?_ _) | (with_reducible refine After.out _ ?_ ?_) | (dsimp only; omega) | omega | (simp only [World.size_alloc, World.size_setCell, World.size_drew]; omega)))))).mono ?_
      rintro e w' ⟨rfl, y1, rfl⟩
      have hsy1 := y1.bel.size
      (try simp only [World.size_alloc, World.size_setCell, World.size_drew] at hsy1)
      go_wp2_with fail
      with_reducible refine (CP.out _ (hr.out.bel (by (repeat (first | (with_reducible exact Below.refl _ _) | (with_reducible assumption) | (with_reducible refine Later.out _ ?_) | (with_reducible refine bel_alloc ?_ _) | (with_reducible refine bel_drew ?_) | (with_reducible refine bel_drewN ?_ _) | (with_reducible refine bel_set ?_ ?_ _) | (with_reducible refine After.out _ ?_ ?_) | (dsimp only; omega) | omega | (simp only [World.size_alloc, World.size_setCell, World.size_drew]; omega)))))).mono ?_
      rintro e w' ⟨rfl, y2, rfl⟩
      have hsy2 := y2.bel.size
      (try simp only [World.size_alloc, World.size_setCell, World.size_drew] at hsy2)
      go_wp2_with fail
      with_reducible refine (CD.out _ (hr.out.bel (by (repeat (first | (with_reducible exact Below.refl _ _) | (with_reducible assumption) | (with_reducible refine Later.out _ ?_) | (with_reducible refine bel_alloc ?_ _) | (with_reducible refine bel_drew ?_) | (with_reducible refine bel_drewN ?_ _) | (with_reducible refine bel_set ?_ ?_ _) | (with_reducible refine After.out _ ?_ ?_) | (dsimp only; omega) | omega | (simp only [World.size_alloc, World.size_setCell, World.size_drew]; omega)))))).mono ?_
      rintro e w' ⟨a3, c3, rfl, hown, y3, rfl⟩
      have hsy3 := y3.bel.size
      (try simp only [World.size_alloc, World.size_setCell, World.size_drew] at hsy3)
      have O3 := Lib.hid (Owns.of hown)
      clear hown
      go_wp2_with fail
      refine bodyPost_ret (by simp [results, Tryz.results9, go_sem, ↓IntWalk.iteOmega, *]; try rfl) rfl ?_
      exact RetOwn.mk _ rfl (own_mono O3.out.own (by ((try simp only [World.size_alloc, World.size_setCell, World.size_drew]); omega))) (by (repeat (first | (with_reducible exact Below.refl _ _) | (with_reducible assumption) | (with_reducible refine Later.out _ ?_) | (with_reducible refine bel_alloc ?_ _) | (with_reducible refine bel_drew ?_) | (with_reducible refine bel_drewN ?_ _) | (with_reducible refine bel_set ?_ ?_ _) | (with_reducible refine After.out _ ?_ ?_) | (dsimp only; omega) | omega | (simp only [World.size_alloc, World.size_setCell, World.size_drew]; omega))))
set_option maxRecDepth 8000 in
set_option maxHeartbeats 4000000 in
theorem decode_spec (T : List Rul) (s : ByteArray) (a : Option Addr) (n c : Nat) (w : World) (hn : T.length = n) (hm : n ≤ 1048576) (hok : ∀ r ∈ T, RulOk r) (hs : s.size ≤ 1048576) (hr : RulesR w a T) :
    Calls Tryz.prog 10 #[.slice a n c, .string s] w (RetOwn w 2 1 (dtL T s).length (intCells (dtL T s)) fun v => .tuple #[v, .int .i64 (dtC T s)]) := by
  have CC := fun (w : World) (hr : RulesR w a T) => sCode_any T s a n c w hn hm hok hs hr
  cases hb : textB T s
  · rw [show dtL T s = [] by simp [dtL, dtC, hb], show dtC T s = 1 by simp [dtC, hb]]
    rw [hb] at CC
    rw [show (if (false : Bool) = true then (0 : Int) else 1) = 1 from rfl] at CC
    replace CC := Lib.hid CC
    replace hr := Lib.hid hr
    clear hok hb
    go_enter Tryz.func10, Tryz.ntmps10
    go_wp2_with fail
    with_reducible refine (CC.out _ (hr.out.bel (by (repeat (first | (with_reducible exact Below.refl _ _) | (with_reducible assumption) | (with_reducible refine Later.out _ ?_) | (with_reducible refine bel_alloc ?_ _) | (with_reducible refine bel_drew ?_) | (with_reducible refine bel_drewN ?_ _) | (with_reducible refine bel_set ?_ ?_ _) | (with_reducible refine After.out _ ?_ ?_) | (dsimp only; omega) | omega | (simp only [World.size_alloc, World.size_setCell, World.size_drew]; omega)))))).mono ?_
    rintro e w' ⟨rfl, y1, rfl⟩
    have hsy1 := y1.bel.size
    (try simp only [World.size_alloc, World.size_setCell, World.size_drew] at hsy1)
    go_wp2_with fail
    refine bodyPost_ret (by simp [results, Tryz.results10, go_sem, ↓IntWalk.iteOmega, *]; try rfl) rfl ?_
    exact RetOwn.mk (.slice none 0 0) rfl (World.ownsRow_nil _ _ _ _) (by (repeat (first | (with_reducible exact Below.refl _ _) | (with_reducible assumption) | (with_reducible refine Later.out _ ?_) | (with_reducible refine bel_alloc ?_ _) | (with_reducible refine bel_drew ?_) | (with_reducible refine bel_drewN ?_ _) | (with_reducible refine bel_set ?_ ?_ _) | (with_reducible refine After.out _ ?_ ?_) | (dsimp only; omega) | omega | (simp only [World.size_alloc, World.size_setCell, World.size_drew]; omega))))
  · obtain ⟨hT, hs48⟩ := textB_sizes hb
    have CP := fun (w : World) (hr : RulesR w a T) => plain_spec T a n c w hn hm hT hr
    have CD := fun (w : World) (hr : RulesR w a T) => sDecode_any T s a n c w hn hT hok hs48 hr
    rw [hb] at CC
    rw [show (if (true : Bool) = true then (0 : Int) else 1) = 0 from rfl] at CC
    cases hp : plainB T
    · rw [show dtL T s = [] by simp [dtL, dtC, hb, hp], show dtC T s = 5 by simp [dtC, hb, hp]]
      rw [hp] at CP
      replace CC := Lib.hid CC
      replace CP := Lib.hid CP
      replace hr := Lib.hid hr
      clear hok hb hp CD hT
      go_enter Tryz.func10, Tryz.ntmps10
      go_wp2_with fail
      with_reducible refine (CC.out _ (hr.out.bel (by (repeat (first | (with_reducible exact Below.refl _ _) | (with_reducible assumption) | (with_reducible refine Later.out _ ?_) | (with_reducible refine bel_alloc ?_ _) | (with_reducible refine bel_drew ?_) | (with_reducible refine bel_drewN ?_ _) | (with_reducible refine bel_set ?_ ?_ _) | (with_reducible refine After.out _ ?_ ?_) | (dsimp only; omega) | omega | (simp only [World.size_alloc, World.size_setCell, World.size_drew]; omega)))))).mono ?_
      rintro e w' ⟨rfl, y1, rfl⟩
      have hsy1 := y1.bel.size
      (try simp only [World.size_alloc, World.size_setCell, World.size_drew] at hsy1)
      go_wp2_with fail
      with_reducible refine (CP.out _ (hr.out.bel (by (repeat (first | (with_reducible exact Below.refl _ _) | (with_reducible assumption) | (with_reducible refine Later.out _ ?_) | (with_reducible refine bel_alloc ?_ _) | (with_reducible refine bel_drew ?_) | (with_reducible refine bel_drewN ?_ _) | (with_reducible refine bel_set ?_ ?_ _) | (with_reducible refine After.out _ ?_ ?_) | (dsimp only; omega) | omega | (simp only [World.size_alloc, World.size_setCell, World.size_drew]; omega)))))).mono ?_
      rintro e w' ⟨rfl, y2, rfl⟩
      have hsy2 := y2.bel.size
      (try simp only [World.size_alloc, World.size_setCell, World.size_drew] at hsy2)
      go_wp2_with fail
      refine bodyPost_ret (by simp [results, Tryz.results10, go_sem, ↓IntWalk.iteOmega, *]; try rfl) rfl ?_
      exact RetOwn.mk (.slice none 0 0) rfl (World.ownsRow_nil _ _ _ _) (by (repeat (first | (with_reducible exact Below.refl _ _) | (with_reducible assumption) | (with_reducible refine Later.out _ ?_) | (with_reducible refine bel_alloc ?_ _) | (with_reducible refine bel_drew ?_) | (with_reducible refine bel_drewN ?_ _) | (with_reducible refine bel_set ?_ ?_ _) | (with_reducible refine After.out _ ?_ ?_) | (dsimp only; omega) | omega | (simp only [World.size_alloc, World.size_setCell, World.size_drew]; omega))))
    rw [hp] at CP
    cases hk : dcK T s
    · rw [show dtL T s = [] by simp [dtL, dtC, hb, hp, hk], show dtC T s = 4 by simp [dtC, hb, hp, hk]]
      unfold RetDec at CD; rw [hk] at CD
      have hd := Lib.hid hk
      skip
      replace CC := Lib.hid CC
      replace CP := Lib.hid CP
      replace CD := Lib.hid CD
      replace hr := Lib.hid hr
      clear hok hb hp hT hk hd
      go_enter Tryz.func10, Tryz.ntmps10
      go_wp2_with fail
      with_reducible refine (CC.out _ (hr.out.bel (by (repeat (first | (with_reducible exact Below.refl _ _) | (with_reducible assumption) | (with_reducible refine Later.out _ ?_) | (with_reducible refine bel_alloc ?_ _) | (with_reducible refine bel_drew ?_) | (with_reducible refine bel_drewN ?_ _) | (with_reducible refine bel_set ?_ ?_ _) | (with_reducible refine After.out _ ?_ ?_) | (dsimp only; omega) | omega | (simp only [World.size_alloc, World.size_setCell, World.size_drew]; omega)))))).mono ?_
      rintro e w' ⟨rfl, y1, rfl⟩
      have hsy1 := y1.bel.size
      (try simp only [World.size_alloc, World.size_setCell, World.size_drew] at hsy1)
      go_wp2_with fail
      with_reducible refine (CP.out _ (hr.out.bel (by (repeat (first | (with_reducible exact Below.refl _ _) | (with_reducible assumption) | (with_reducible refine Later.out _ ?_) | (with_reducible refine bel_alloc ?_ _) | (with_reducible refine bel_drew ?_) | (with_reducible refine bel_drewN ?_ _) | (with_reducible refine bel_set ?_ ?_ _) | (with_reducible refine After.out _ ?_ ?_) | (dsimp only; omega) | omega | (simp only [World.size_alloc, World.size_setCell, World.size_drew]; omega)))))).mono ?_
      rintro e w' ⟨rfl, y2, rfl⟩
      have hsy2 := y2.bel.size
      (try simp only [World.size_alloc, World.size_setCell, World.size_drew] at hsy2)
      go_wp2_with fail
      with_reducible refine (CD.out _ (hr.out.bel (by (repeat (first | (with_reducible exact Below.refl _ _) | (with_reducible assumption) | (with_reducible refine Later.out _ ?_) | (with_reducible refine bel_alloc ?_ _) | (with_reducible refine bel_drew ?_) | (with_reducible refine bel_drewN ?_ _) | (with_reducible refine bel_set ?_ ?_ _) | (with_reducible refine After.out _ ?_ ?_) | (dsimp only; omega) | omega | (simp only [World.size_alloc, World.size_setCell, World.size_drew]; omega)))))).mono ?_
      rintro e w' ⟨a3, c3, S, rfl, hown, hS, y3, rfl⟩
      have hs3 := y3.bel.size
      have O3 := Lib.hid (Owns.of hown)
      replace hS := Lib.hid hS
      clear hown
      go_wp2_with fail
      refine bodyPost_ret (by simp [results, Tryz.results10, go_sem, ↓IntWalk.iteOmega, *]; try rfl) rfl ?_
      exact RetOwn.mk (.slice none 0 0) rfl (World.ownsRow_nil _ _ _ _) (by (repeat (first | (with_reducible exact Below.refl _ _) | (with_reducible assumption) | (with_reducible refine Later.out _ ?_) | (with_reducible refine bel_alloc ?_ _) | (with_reducible refine bel_drew ?_) | (with_reducible refine bel_drewN ?_ _) | (with_reducible refine bel_set ?_ ?_ _) | (with_reducible refine After.out _ ?_ ?_) | (dsimp only; omega) | omega | (simp only [World.size_alloc, World.size_setCell, World.size_drew]; omega))))
    · rw [show dtL T s = dcL T s by simp [dtL, dtC, hb, hp, hk], show dtC T s = 0 by simp [dtC, hb, hp, hk]]
      unfold RetDec at CD; rw [hk] at CD
      obtain ⟨d, hd⟩ : ∃ d, dcL T s = d := ⟨_, rfl⟩
      simp only [hd] at CD ⊢
      replace CC := Lib.hid CC
      replace CP := Lib.hid CP
      replace CD := Lib.hid CD
      replace hr := Lib.hid hr
      replace hk := Lib.hid (show (true : Bool) = true from rfl)
      clear hok hb hp hT hd
      go_enter Tryz.func10, Tryz.ntmps10
      go_wp2_with fail
      with_reducible refine (CC.out _ (hr.out.bel (by (repeat (first | (with_reducible exact Below.refl _ _) | (with_reducible assumption) | (with_reducible refine Later.out _ ?_) | (with_reducible refine bel_alloc ?_ _) | (with_reducible refine bel_drew ?_) | (with_reducible refine bel_drewN ?_ _) | (with_reducible refine bel_set ?_ ?_ _) | (with_reducible refine After.out _ ?_ ?_) | (dsimp only; omega) | omega | (simp only [World.size_alloc, World.size_setCell, World.size_drew]; omega)))))).mono ?_
      rintro e w' ⟨rfl, y1, rfl⟩
      have hsy1 := y1.bel.size
      (try simp only [World.size_alloc, World.size_setCell, World.size_drew] at hsy1)
      go_wp2_with fail
      with_reducible refine (CP.out _ (hr.out.bel (by (repeat (first | (with_reducible exact Below.refl _ _) | (with_reducible assumption) | (with_reducible refine Later.out _ ?_) | (with_reducible refine bel_alloc ?_ _) | (with_reducible refine bel_drew ?_) | (with_reducible refine bel_drewN ?_ _) | (with_reducible refine bel_set ?_ ?_ _) | (with_reducible refine After.out _ ?_ ?_) | (dsimp only; omega) | omega | (simp only [World.size_alloc, World.size_setCell, World.size_drew]; omega)))))).mono ?_
      rintro e w' ⟨rfl, y2, rfl⟩
      have hsy2 := y2.bel.size
      (try simp only [World.size_alloc, World.size_setCell, World.size_drew] at hsy2)
      go_wp2_with fail
      with_reducible refine (CD.out _ (hr.out.bel (by (repeat (first | (with_reducible exact Below.refl _ _) | (with_reducible assumption) | (with_reducible refine Later.out _ ?_) | (with_reducible refine bel_alloc ?_ _) | (with_reducible refine bel_drew ?_) | (with_reducible refine bel_drewN ?_ _) | (with_reducible refine bel_set ?_ ?_ _) | (with_reducible refine After.out _ ?_ ?_) | (dsimp only; omega) | omega | (simp only [World.size_alloc, World.size_setCell, World.size_drew]; omega)))))).mono ?_
      rintro e w' ⟨a3, c3, S, rfl, hown, hS, y3, rfl⟩
      have hs3 := y3.bel.size
      have O3 := Lib.hid (Owns.of hown)
      replace hS := Lib.hid hS
      clear hown
      have e := hS.out hk.out
      subst e
      go_wp2_with fail
      refine bodyPost_ret (by simp [results, Tryz.results10, go_sem, ↓IntWalk.iteOmega, *]; try rfl) rfl ?_
      exact RetOwn.mk _ rfl (own_mono O3.out.own (by ((try simp only [World.size_alloc, World.size_setCell, World.size_drew]); omega))) (by (repeat (first | (with_reducible exact Below.refl _ _) | (with_reducible assumption) | (with_reducible refine Later.out _ ?_) | (with_reducible refine bel_alloc ?_ _) | (with_reducible refine bel_drew ?_) | (with_reducible refine bel_drewN ?_ _) | (with_reducible refine bel_set ?_ ?_ _) | (with_reducible refine After.out _ ?_ ?_) | (dsimp only; omega) | omega | (simp only [World.size_alloc, World.size_setCell, World.size_drew]; omega))))
set_option maxRecDepth 8000 in
set_option maxHeartbeats 4000000 in
theorem rec_impl (T : List Rul) (s : List Int) (aT a : Option Addr) (nT cT n c : Nat) (w : World) (hnT : T.length = nT) (hmT : nT ≤ 1048576) (hncT : nT ≤ cT) (hcmT : cT ≤ maxLen) (hok : ∀ r ∈ T, RulOk r) (hn : s.length = n) (hm : n ≤ 1048576) (hnc : n ≤ c) (hcm : c ≤ maxLen) (hr : RulesR w aT T) (hr' : Row w a (intCells s)) :
    Calls Tryz.prog 6 #[.slice aT nT cT, .slice a n c] w (Ret w (.tuple #[.bool (irB T s), .int .i64 (irC T s)])) := by
  subst hnT hn
  have CR := fun (w : World) (hr : RulesR w aT T) (hr' : Row w a (intCells s)) => romanise_impl T s aT a T.length cT s.length c w rfl hmT hncT hcmT hok rfl hm hnc hcm hr hr'
  have hsz := ruT_len T s
  by_cases hc : ruC T s = 0
  · have hT := ruC_tab hc
    rw [hc] at CR
    have CP := fun (w : World) (hr : RulesR w aT T) => plain_impl T aT T.length cT w rfl hmT hT hr
    have CD := fun (w : World) (hr : RulesR w aT T) => decode_any T (ruT T s) aT T.length cT w rfl hT hok hsz hr
    cases hp : plainB T
    · have XB := Lib.hid (show irB T s = false by simp [irB, irC, hc, hp])
      have XC := Lib.hid (show irC T s = 5 by simp [irC, hc, hp])
      rw [hp] at CP
      obtain ⟨t, ht⟩ : ∃ t, ruT T s = t := ⟨_, rfl⟩
      simp only [ht] at CR
      replace CR := Lib.hid CR
      replace CP := Lib.hid CP
      replace hr := Lib.hid hr
      replace hr' := Lib.hid hr'
      clear hok hp CD hT hsz hc ht
      go_enter Tryz.func6, Tryz.ntmps6
      go_wp2_with fail
      with_reducible refine (CR.out _ (hr.out.bel (by (repeat (first | (with_reducible exact Below.refl _ _) | (with_reducible assumption) | (with_reducible refine Later.out _ ?_) | (with_reducible refine bel_alloc ?_ _) | (with_reducible refine bel_drew ?_) | (with_reducible refine bel_drewN ?_ _) | (with_reducible refine bel_set ?_ ?_ _) | (with_reducible refine After.out _ ?_ ?_) | (dsimp only; omega) | omega | (simp only [World.size_alloc, World.size_setCell, World.size_drew]; omega))))) (hr'.out.bel (by (repeat (first | (with_reducible exact Below.refl _ _) | (with_reducible assumption) | (with_reducible refine Later.out _ ?_) | (with_reducible refine bel_alloc ?_ _) | (with_reducible refine bel_drew ?_) | (with_reducible refine bel_drewN ?_ _) | (with_reducible refine bel_set ?_ ?_ _) | (with_reducible refine After.out _ ?_ ?_) | (dsimp only; omega) | omega | (simp only [World.size_alloc, World.size_setCell, World.size_drew]; omega)))))).mono ?_
      rintro e w' ⟨rfl, y1, rfl⟩
      have hsy1 := y1.bel.size
      (try simp only [World.size_alloc, World.size_setCell, World.size_drew] at hsy1)
      go_wp2_with fail
      with_reducible refine (CP.out _ (hr.out.bel (by (repeat (first | (with_reducible exact Below.refl _ _) | (with_reducible assumption) | (with_reducible refine Later.out _ ?_) | (with_reducible refine bel_alloc ?_ _) | (with_reducible refine bel_drew ?_) | (with_reducible refine bel_drewN ?_ _) | (with_reducible refine bel_set ?_ ?_ _) | (with_reducible refine After.out _ ?_ ?_) | (dsimp only; omega) | omega | (simp only [World.size_alloc, World.size_setCell, World.size_drew]; omega)))))).mono ?_
      rintro e w' ⟨rfl, y2, rfl⟩
      have hsy2 := y2.bel.size
      (try simp only [World.size_alloc, World.size_setCell, World.size_drew] at hsy2)
      go_wp2_with fail
      refine bodyPost_ret (by simp [results, Tryz.results6, go_sem, ↓IntWalk.iteOmega, *]; try rfl) rfl ?_
      exact .mk (by rw [XB.out, XC.out]) (by (repeat (first | (with_reducible exact Below.refl _ _) | (with_reducible assumption) | (with_reducible refine Later.out _ ?_) | (with_reducible refine bel_alloc ?_ _) | (with_reducible refine bel_drew ?_) | (with_reducible refine bel_drewN ?_ _) | (with_reducible refine bel_set ?_ ?_ _) | (with_reducible refine After.out _ ?_ ?_) | (dsimp only; omega) | omega | (simp only [World.size_alloc, World.size_setCell, World.size_drew]; omega))))
    have XC := Lib.hid (show irC T s = 0 by simp [irC, hc, hp])
    rw [hp] at CP
    have hdl := dcL_len hT hsz
    cases hk : dcK T (ruT T s)
    · have XB := Lib.hid (show irB T s = false by simp [irB, hk])
      rw [hk] at CD
      obtain ⟨d, hd⟩ : ∃ d, dcL T (ruT T s) = d := ⟨_, rfl⟩
      simp only [hd] at CD
      obtain ⟨t, ht⟩ : ∃ t, ruT T s = t := ⟨_, rfl⟩
      simp only [ht] at CR CD
      replace CR := Lib.hid CR
      replace CP := Lib.hid CP
      replace CD := Lib.hid CD
      replace hr := Lib.hid hr
      replace hr' := Lib.hid hr'
      clear hok hp hT hsz hc hk hdl hd ht
      go_enter Tryz.func6, Tryz.ntmps6
      go_wp2_with fail
      with_reducible refine (CR.out _ (hr.out.bel (by (repeat (first | (with_reducible exact Below.refl _ _) | (with_reducible assumption) | (with_reducible refine Later.out _ ?_) | (with_reducible refine bel_alloc ?_ _) | (with_reducible refine bel_drew ?_) | (with_reducible refine bel_drewN ?_ _) | (with_reducible refine bel_set ?_ ?_ _) | (with_reducible refine After.out _ ?_ ?_) | (dsimp only; omega) | omega | (simp only [World.size_alloc, World.size_setCell, World.size_drew]; omega))))) (hr'.out.bel (by (repeat (first | (with_reducible exact Below.refl _ _) | (with_reducible assumption) | (with_reducible refine Later.out _ ?_) | (with_reducible refine bel_alloc ?_ _) | (with_reducible refine bel_drew ?_) | (with_reducible refine bel_drewN ?_ _) | (with_reducible refine bel_set ?_ ?_ _) | (with_reducible refine After.out _ ?_ ?_) | (dsimp only; omega) | omega | (simp only [World.size_alloc, World.size_setCell, World.size_drew]; omega)))))).mono ?_
      rintro e w' ⟨rfl, y1, rfl⟩
      have hsy1 := y1.bel.size
      (try simp only [World.size_alloc, World.size_setCell, World.size_drew] at hsy1)
      go_wp2_with fail
      with_reducible refine (CP.out _ (hr.out.bel (by (repeat (first | (with_reducible exact Below.refl _ _) | (with_reducible assumption) | (with_reducible refine Later.out _ ?_) | (with_reducible refine bel_alloc ?_ _) | (with_reducible refine bel_drew ?_) | (with_reducible refine bel_drewN ?_ _) | (with_reducible refine bel_set ?_ ?_ _) | (with_reducible refine After.out _ ?_ ?_) | (dsimp only; omega) | omega | (simp only [World.size_alloc, World.size_setCell, World.size_drew]; omega)))))).mono ?_
      rintro e w' ⟨rfl, y2, rfl⟩
      have hsy2 := y2.bel.size
      (try simp only [World.size_alloc, World.size_setCell, World.size_drew] at hsy2)
      go_wp2_with fail
      with_reducible refine (CD.out _ (hr.out.bel (by (repeat (first | (with_reducible exact Below.refl _ _) | (with_reducible assumption) | (with_reducible refine Later.out _ ?_) | (with_reducible refine bel_alloc ?_ _) | (with_reducible refine bel_drew ?_) | (with_reducible refine bel_drewN ?_ _) | (with_reducible refine bel_set ?_ ?_ _) | (with_reducible refine After.out _ ?_ ?_) | (dsimp only; omega) | omega | (simp only [World.size_alloc, World.size_setCell, World.size_drew]; omega)))))).mono ?_
      rintro e w' ⟨a3, c3, rfl, hown, y3, rfl⟩
      have hsy3 := y3.bel.size
      (try simp only [World.size_alloc, World.size_setCell, World.size_drew] at hsy3)
      have O3 := Lib.hid (Owns.of hown)
      clear hown
      go_wp2_with fail
      refine bodyPost_ret (by simp [results, Tryz.results6, go_sem, ↓IntWalk.iteOmega, *]; try rfl) rfl ?_
      exact .mk (by rw [XB.out, XC.out]) (by (repeat (first | (with_reducible exact Below.refl _ _) | (with_reducible assumption) | (with_reducible refine Later.out _ ?_) | (with_reducible refine bel_alloc ?_ _) | (with_reducible refine bel_drew ?_) | (with_reducible refine bel_drewN ?_ _) | (with_reducible refine bel_set ?_ ?_ _) | (with_reducible refine After.out _ ?_ ?_) | (dsimp only; omega) | omega | (simp only [World.size_alloc, World.size_setCell, World.size_drew]; omega))))
    · have XB := Lib.hid (show irB T s = (dcL T (ruT T s) == s) by simp [irB, irC, hc, hp, hk])
      rw [hk] at CD
      obtain ⟨d, hd⟩ : ∃ d, dcL T (ruT T s) = d := ⟨_, rfl⟩
      rw [hd] at XB hdl
      simp only [hd] at CD
      obtain ⟨t, ht⟩ : ∃ t, ruT T s = t := ⟨_, rfl⟩
      simp only [ht] at CR CD
      have CE := Lib.hid (fun (aq : Option Addr) (nq cq : Nat) (w : World) (h1 : d.length = nq) (hr : Row w aq (intCells d)) (hr' : Row w a (intCells s)) => equalI_any d s aq a nq cq s.length c w h1 rfl (by omega) hm hr hr')
      replace CR := Lib.hid CR
      replace CP := Lib.hid CP
      replace CD := Lib.hid CD
      replace hr := Lib.hid hr
      replace hr' := Lib.hid hr'
      clear hok hp hT hsz hc hk hd ht
      go_enter Tryz.func6, Tryz.ntmps6
      go_wp2_with fail
      with_reducible refine (CR.out _ (hr.out.bel (by (repeat (first | (with_reducible exact Below.refl _ _) | (with_reducible assumption) | (with_reducible refine Later.out _ ?_) | (with_reducible refine bel_alloc ?_ _) | (with_reducible refine bel_drew ?_) | (with_reducible refine bel_drewN ?_ _) | (with_reducible refine bel_set ?_ ?_ _) | (with_reducible refine After.out _ ?_ ?_) | (dsimp only; omega) | omega | (simp only [World.size_alloc, World.size_setCell, World.size_drew]; omega))))) (hr'.out.bel (by (repeat (first | (with_reducible exact Below.refl _ _) | (with_reducible assumption) | (with_reducible refine Later.out _ ?_) | (with_reducible refine bel_alloc ?_ _) | (with_reducible refine bel_drew ?_) | (with_reducible refine bel_drewN ?_ _) | (with_reducible refine bel_set ?_ ?_ _) | (with_reducible refine After.out _ ?_ ?_) | (dsimp only; omega) | omega | (simp only [World.size_alloc, World.size_setCell, World.size_drew]; omega)))))).mono ?_
      rintro e w' ⟨rfl, y1, rfl⟩
      have hsy1 := y1.bel.size
      (try simp only [World.size_alloc, World.size_setCell, World.size_drew] at hsy1)
      go_wp2_with fail
      with_reducible refine (CP.out _ (hr.out.bel (by (repeat (first | (with_reducible exact Below.refl _ _) | (with_reducible assumption) | (with_reducible refine Later.out _ ?_) | (with_reducible refine bel_alloc ?_ _) | (with_reducible refine bel_drew ?_) | (with_reducible refine bel_drewN ?_ _) | (with_reducible refine bel_set ?_ ?_ _) | (with_reducible refine After.out _ ?_ ?_) | (dsimp only; omega) | omega | (simp only [World.size_alloc, World.size_setCell, World.size_drew]; omega)))))).mono ?_
      rintro e w' ⟨rfl, y2, rfl⟩
      have hsy2 := y2.bel.size
      (try simp only [World.size_alloc, World.size_setCell, World.size_drew] at hsy2)
      go_wp2_with fail
      with_reducible refine (CD.out _ (hr.out.bel (by (repeat (first | (with_reducible exact Below.refl _ _) | (with_reducible assumption) | (with_reducible refine Later.out _ ?_) | (with_reducible refine bel_alloc ?_ _) | (with_reducible refine bel_drew ?_) | (with_reducible refine bel_drewN ?_ _) | (with_reducible refine bel_set ?_ ?_ _) | (with_reducible refine After.out _ ?_ ?_) | (dsimp only; omega) | omega | (simp only [World.size_alloc, World.size_setCell, World.size_drew]; omega)))))).mono ?_
      rintro e w' ⟨a3, c3, rfl, hown, y3, rfl⟩
      have hsy3 := y3.bel.size
      (try simp only [World.size_alloc, World.size_setCell, World.size_drew] at hsy3)
      have O3 := Lib.hid (Owns.of hown)
      clear hown
      skip
      skip
      go_wp2_with fail
      with_reducible refine (CE.out _ _ _ _ rfl (O3.out.row.bel (by (repeat (first | (with_reducible exact Below.refl _ _) | (with_reducible assumption) | (with_reducible refine Later.out _ ?_) | (with_reducible refine bel_alloc ?_ _) | (with_reducible refine bel_drew ?_) | (with_reducible refine bel_drewN ?_ _) | (with_reducible refine bel_set ?_ ?_ _) | (with_reducible refine After.out _ ?_ ?_) | (dsimp only; omega) | omega | (simp only [World.size_alloc, World.size_setCell, World.size_drew]; omega))))) (hr'.out.bel (by (repeat (first | (with_reducible exact Below.refl _ _) | (with_reducible assumption) | (with_reducible refine Later.out _ ?_) | (with_reducible refine bel_alloc ?_ _) | (with_reducible refine bel_drew ?_) | (with_reducible refine bel_drewN ?_ _) | (with_reducible refine bel_set ?_ ?_ _) | (with_reducible refine After.out _ ?_ ?_) | (dsimp only; omega) | omega | (simp only [World.size_alloc, World.size_setCell, World.size_drew]; omega)))))).mono ?_
      rintro e w' ⟨rfl, y4, rfl⟩
      have hsy4 := y4.bel.size
      (try simp only [World.size_alloc, World.size_setCell, World.size_drew] at hsy4)
      go_wp2_with fail
      refine bodyPost_ret (by simp [results, Tryz.results6, go_sem, ↓IntWalk.iteOmega, *]; try rfl) rfl ?_
      exact .mk (by rw [XB.out, XC.out]) (by (repeat (first | (with_reducible exact Below.refl _ _) | (with_reducible assumption) | (with_reducible refine Later.out _ ?_) | (with_reducible refine bel_alloc ?_ _) | (with_reducible refine bel_drew ?_) | (with_reducible refine bel_drewN ?_ _) | (with_reducible refine bel_set ?_ ?_ _) | (with_reducible refine After.out _ ?_ ?_) | (dsimp only; omega) | omega | (simp only [World.size_alloc, World.size_setCell, World.size_drew]; omega))))
  · have XC := Lib.hid (show irC T s = ruC T s by simp [irC, hc])
    have XB := Lib.hid (show irB T s = false by simp [irB, irC, hc])
    obtain ⟨t, ht⟩ : ∃ t, ruT T s = t := ⟨_, rfl⟩
    obtain ⟨C, hC⟩ : ∃ C, ruC T s = C := ⟨_, rfl⟩
    rw [hC] at XC hc
    simp only [ht, hC] at CR
    have hc1 : (C != 0) = true := by simpa using hc
    have hc2 : (C == 0) = false := by simpa using hc
    replace CR := Lib.hid CR
    replace hr := Lib.hid hr
    replace hr' := Lib.hid hr'
    clear hok hsz ht hC
    go_enter Tryz.func6, Tryz.ntmps6
    go_wp2_with fail
    with_reducible refine (CR.out _ (hr.out.bel (by (repeat (first | (with_reducible exact Below.refl _ _) | (with_reducible assumption) | (with_reducible refine Later.out _ ?_) | (with_reducible refine bel_alloc ?_ _) | (with_reducible refine bel_drew ?_) | (with_reducible refine bel_drewN ?_ _) | (with_reducible refine bel_set ?_ ?_ _) | (with_reducible refine After.out _ ?_ ?_) | (dsimp only; omega) | omega | (simp only [World.size_alloc, World.size_setCell, World.size_drew]; omega))))) (hr'.out.bel (by (repeat (first | (with_reducible exact Below.refl _ _) | (with_reducible assumption) | (with_reducible refine Later.out _ ?_) | (with_reducible refine bel_alloc ?_ _) | (with_reducible refine bel_drew ?_) | (with_reducible refine bel_drewN ?_ _) | (with_reducible refine bel_set ?_ ?_ _) | (with_reducible refine After.out _ ?_ ?_) | (dsimp only; omega) | omega | (simp only [World.size_alloc, World.size_setCell, World.size_drew]; omega)))))).mono ?_
    rintro e w' ⟨rfl, y1, rfl⟩
    have hsy1 := y1.bel.size
    (try simp only [World.size_alloc, World.size_setCell, World.size_drew] at hsy1)
    go_wp2_with fail
    refine bodyPost_ret (by simp [results, Tryz.results6, go_sem, ↓IntWalk.iteOmega, *]; try rfl) rfl ?_
    exact .mk (by rw [XB.out, XC.out]) (by (repeat (first | (with_reducible exact Below.refl _ _) | (with_reducible assumption) | (with_reducible refine Later.out _ ?_) | (with_reducible refine bel_alloc ?_ _) | (with_reducible refine bel_drew ?_) | (with_reducible refine bel_drewN ?_ _) | (with_reducible refine bel_set ?_ ?_ _) | (with_reducible refine After.out _ ?_ ?_) | (dsimp only; omega) | omega | (simp only [World.size_alloc, World.size_setCell, World.size_drew]; omega))))
set_option maxRecDepth 8000 in
set_option maxHeartbeats 4000000 in
theorem rec_spec (T : List Rul) (s : List Int) (aT a : Option Addr) (nT cT n c : Nat) (w : World) (hnT : T.length = nT) (hmT : nT ≤ 1048576) (hok : ∀ r ∈ T, RulOk r) (hn : s.length = n) (hm : n ≤ 1048576) (hnc : n ≤ c) (hcm : c ≤ maxLen) (hr : RulesR w aT T) (hr' : Row w a (intCells s)) :
    Calls Tryz.prog 7 #[.slice aT nT cT, .slice a n c] w (Ret w (.tuple #[.bool (irB T s), .int .i64 (irC T s)])) := by
  subst hnT hn
  have CR := fun (w : World) (hr : RulesR w aT T) (hr' : Row w a (intCells s)) => romanise_spec T s aT a T.length cT s.length c w rfl hmT hok rfl hm hnc hcm hr hr'
  have hsz := ruT_len T s
  by_cases hc : ruC T s = 0
  · have hT := ruC_tab hc
    rw [hc] at CR
    have CP := fun (w : World) (hr : RulesR w aT T) => plain_spec T aT T.length cT w rfl hmT hT hr
    have CD := fun (w : World) (hr : RulesR w aT T) => sDecode_any T (ruT T s) aT T.length cT w rfl hT hok hsz hr
    cases hp : plainB T
    · have XB := Lib.hid (show irB T s = false by simp [irB, irC, hc, hp])
      have XC := Lib.hid (show irC T s = 5 by simp [irC, hc, hp])
      rw [hp] at CP
      obtain ⟨t, ht⟩ : ∃ t, ruT T s = t := ⟨_, rfl⟩
      simp only [ht] at CR
      replace CR := Lib.hid CR
      replace CP := Lib.hid CP
      replace hr := Lib.hid hr
      replace hr' := Lib.hid hr'
      clear hok hp CD hT hsz hc ht
      go_enter Tryz.func7, Tryz.ntmps7
      go_wp2_with fail
      with_reducible refine (CR.out _ (hr.out.bel (by (repeat (first | (with_reducible exact Below.refl _ _) | (with_reducible assumption) | (with_reducible refine Later.out _ ?_) | (with_reducible refine bel_alloc ?_ _) | (with_reducible refine bel_drew ?_) | (with_reducible refine bel_drewN ?_ _) | (with_reducible refine bel_set ?_ ?_ _) | (with_reducible refine After.out _ ?_ ?_) | (dsimp only; omega) | omega | (simp only [World.size_alloc, World.size_setCell, World.size_drew]; omega))))) (hr'.out.bel (by (repeat (first | (with_reducible exact Below.refl _ _) | (with_reducible assumption) | (with_reducible refine Later.out _ ?_) | (with_reducible refine bel_alloc ?_ _) | (with_reducible refine bel_drew ?_) | (with_reducible refine bel_drewN ?_ _) | (with_reducible refine bel_set ?_ ?_ _) | (with_reducible refine After.out _ ?_ ?_) | (dsimp only; omega) | omega | (simp only [World.size_alloc, World.size_setCell, World.size_drew]; omega)))))).mono ?_
      rintro e w' ⟨rfl, y1, rfl⟩
      have hsy1 := y1.bel.size
      (try simp only [World.size_alloc, World.size_setCell, World.size_drew] at hsy1)
      go_wp2_with fail
      with_reducible refine (CP.out _ (hr.out.bel (by (repeat (first | (with_reducible exact Below.refl _ _) | (with_reducible assumption) | (with_reducible refine Later.out _ ?_) | (with_reducible refine bel_alloc ?_ _) | (with_reducible refine bel_drew ?_) | (with_reducible refine bel_drewN ?_ _) | (with_reducible refine bel_set ?_ ?_ _) | (with_reducible refine After.out _ ?_ ?_) | (dsimp only; omega) | omega | (simp only [World.size_alloc, World.size_setCell, World.size_drew]; omega)))))).mono ?_
      rintro e w' ⟨rfl, y2, rfl⟩
      have hsy2 := y2.bel.size
      (try simp only [World.size_alloc, World.size_setCell, World.size_drew] at hsy2)
      go_wp2_with fail
      refine bodyPost_ret (by simp [results, Tryz.results7, go_sem, ↓IntWalk.iteOmega, *]; try rfl) rfl ?_
      exact .mk (by rw [XB.out, XC.out]) (by (repeat (first | (with_reducible exact Below.refl _ _) | (with_reducible assumption) | (with_reducible refine Later.out _ ?_) | (with_reducible refine bel_alloc ?_ _) | (with_reducible refine bel_drew ?_) | (with_reducible refine bel_drewN ?_ _) | (with_reducible refine bel_set ?_ ?_ _) | (with_reducible refine After.out _ ?_ ?_) | (dsimp only; omega) | omega | (simp only [World.size_alloc, World.size_setCell, World.size_drew]; omega))))
    have XC := Lib.hid (show irC T s = 0 by simp [irC, hc, hp])
    rw [hp] at CP
    have hdl := dcL_len hT hsz
    cases hk : dcK T (ruT T s)
    · have XB := Lib.hid (show irB T s = false by simp [irB, hk])
      unfold RetDec at CD; rw [hk] at CD
      obtain ⟨d, hd⟩ : ∃ d, dcL T (ruT T s) = d := ⟨_, rfl⟩
      simp only [hd] at CD
      obtain ⟨t, ht⟩ : ∃ t, ruT T s = t := ⟨_, rfl⟩
      simp only [ht] at CR CD
      replace CR := Lib.hid CR
      replace CP := Lib.hid CP
      replace CD := Lib.hid CD
      replace hr := Lib.hid hr
      replace hr' := Lib.hid hr'
      clear hok hp hT hsz hc hk hdl hd ht
      go_enter Tryz.func7, Tryz.ntmps7
      go_wp2_with fail
      with_reducible refine (CR.out _ (hr.out.bel (by (repeat (first | (with_reducible exact Below.refl _ _) | (with_reducible assumption) | (with_reducible refine Later.out _ ?_) | (with_reducible refine bel_alloc ?_ _) | (with_reducible refine bel_drew ?_) | (with_reducible refine bel_drewN ?_ _) | (with_reducible refine bel_set ?_ ?_ _) | (with_reducible refine After.out _ ?_ ?_) | (dsimp only; omega) | omega | (simp only [World.size_alloc, World.size_setCell, World.size_drew]; omega))))) (hr'.out.bel (by (repeat (first | (with_reducible exact Below.refl _ _) | (with_reducible assumption) | (with_reducible refine Later.out _ ?_) | (with_reducible refine bel_alloc ?_ _) | (with_reducible refine bel_drew ?_) | (with_reducible refine bel_drewN ?_ _) | (with_reducible refine bel_set ?_ ?_ _) | (with_reducible refine After.out _ ?_ ?_) | (dsimp only; omega) | omega | (simp only [World.size_alloc, World.size_setCell, World.size_drew]; omega)))))).mono ?_
      rintro e w' ⟨rfl, y1, rfl⟩
      have hsy1 := y1.bel.size
      (try simp only [World.size_alloc, World.size_setCell, World.size_drew] at hsy1)
      go_wp2_with fail
      with_reducible refine (CP.out _ (hr.out.bel (by (repeat (first | (with_reducible exact Below.refl _ _) | (with_reducible assumption) | (with_reducible refine Later.out _ ?_) | (with_reducible refine bel_alloc ?_ _) | (with_reducible refine bel_drew ?_) | (with_reducible refine bel_drewN ?_ _) | (with_reducible refine bel_set ?_ ?_ _) | (with_reducible refine After.out _ ?_ ?_) | (dsimp only; omega) | omega | (simp only [World.size_alloc, World.size_setCell, World.size_drew]; omega)))))).mono ?_
      rintro e w' ⟨rfl, y2, rfl⟩
      have hsy2 := y2.bel.size
      (try simp only [World.size_alloc, World.size_setCell, World.size_drew] at hsy2)
      go_wp2_with fail
      with_reducible refine (CD.out _ (hr.out.bel (by (repeat (first | (with_reducible exact Below.refl _ _) | (with_reducible assumption) | (with_reducible refine Later.out _ ?_) | (with_reducible refine bel_alloc ?_ _) | (with_reducible refine bel_drew ?_) | (with_reducible refine bel_drewN ?_ _) | (with_reducible refine bel_set ?_ ?_ _) | (with_reducible refine After.out _ ?_ ?_) | (dsimp only; omega) | omega | (simp only [World.size_alloc, World.size_setCell, World.size_drew]; omega)))))).mono ?_
      rintro e w' ⟨a3, c3, S, rfl, hown, hS, y3, rfl⟩
      have hs3 := y3.bel.size
      have O3 := Lib.hid (Owns.of hown)
      replace hS := Lib.hid hS
      clear hown
      go_wp2_with fail
      refine bodyPost_ret (by simp [results, Tryz.results7, go_sem, ↓IntWalk.iteOmega, *]; try rfl) rfl ?_
      exact .mk (by rw [XB.out, XC.out]) (by (repeat (first | (with_reducible exact Below.refl _ _) | (with_reducible assumption) | (with_reducible refine Later.out _ ?_) | (with_reducible refine bel_alloc ?_ _) | (with_reducible refine bel_drew ?_) | (with_reducible refine bel_drewN ?_ _) | (with_reducible refine bel_set ?_ ?_ _) | (with_reducible refine After.out _ ?_ ?_) | (dsimp only; omega) | omega | (simp only [World.size_alloc, World.size_setCell, World.size_drew]; omega))))
    · have XB := Lib.hid (show irB T s = (dcL T (ruT T s) == s) by simp [irB, irC, hc, hp, hk])
      unfold RetDec at CD; rw [hk] at CD
      obtain ⟨d, hd⟩ : ∃ d, dcL T (ruT T s) = d := ⟨_, rfl⟩
      rw [hd] at XB hdl
      simp only [hd] at CD
      obtain ⟨t, ht⟩ : ∃ t, ruT T s = t := ⟨_, rfl⟩
      simp only [ht] at CR CD
      have CE := Lib.hid (fun (aq : Option Addr) (nq cq : Nat) (w : World) (h1 : d.length = nq) (hr : Row w aq (intCells d)) (hr' : Row w a (intCells s)) => sSame_any d s aq a nq cq s.length c w h1 rfl (by omega) hm hr hr')
      replace CR := Lib.hid CR
      replace CP := Lib.hid CP
      replace CD := Lib.hid CD
      replace hr := Lib.hid hr
      replace hr' := Lib.hid hr'
      clear hok hp hT hsz hc hk hd ht
      go_enter Tryz.func7, Tryz.ntmps7
      go_wp2_with fail
      with_reducible refine (CR.out _ (hr.out.bel (by (repeat (first | (with_reducible exact Below.refl _ _) | (with_reducible assumption) | (with_reducible refine Later.out _ ?_) | (with_reducible refine bel_alloc ?_ _) | (with_reducible refine bel_drew ?_) | (with_reducible refine bel_drewN ?_ _) | (with_reducible refine bel_set ?_ ?_ _) | (with_reducible refine After.out _ ?_ ?_) | (dsimp only; omega) | omega | (simp only [World.size_alloc, World.size_setCell, World.size_drew]; omega))))) (hr'.out.bel (by (repeat (first | (with_reducible exact Below.refl _ _) | (with_reducible assumption) | (with_reducible refine Later.out _ ?_) | (with_reducible refine bel_alloc ?_ _) | (with_reducible refine bel_drew ?_) | (with_reducible refine bel_drewN ?_ _) | (with_reducible refine bel_set ?_ ?_ _) | (with_reducible refine After.out _ ?_ ?_) | (dsimp only; omega) | omega | (simp only [World.size_alloc, World.size_setCell, World.size_drew]; omega)))))).mono ?_
      rintro e w' ⟨rfl, y1, rfl⟩
      have hsy1 := y1.bel.size
      (try simp only [World.size_alloc, World.size_setCell, World.size_drew] at hsy1)
      go_wp2_with fail
      with_reducible refine (CP.out _ (hr.out.bel (by (repeat (first | (with_reducible exact Below.refl _ _) | (with_reducible assumption) | (with_reducible refine Later.out _ ?_) | (with_reducible refine bel_alloc ?_ _) | (with_reducible refine bel_drew ?_) | (with_reducible refine bel_drewN ?_ _) | (with_reducible refine bel_set ?_ ?_ _) | (with_reducible refine After.out _ ?_ ?_) | (dsimp only; omega) | omega | (simp only [World.size_alloc, World.size_setCell, World.size_drew]; omega)))))).mono ?_
      rintro e w' ⟨rfl, y2, rfl⟩
      have hsy2 := y2.bel.size
      (try simp only [World.size_alloc, World.size_setCell, World.size_drew] at hsy2)
      go_wp2_with fail
      with_reducible refine (CD.out _ (hr.out.bel (by (repeat (first | (with_reducible exact Below.refl _ _) | (with_reducible assumption) | (with_reducible refine Later.out _ ?_) | (with_reducible refine bel_alloc ?_ _) | (with_reducible refine bel_drew ?_) | (with_reducible refine bel_drewN ?_ _) | (with_reducible refine bel_set ?_ ?_ _) | (with_reducible refine After.out _ ?_ ?_) | (dsimp only; omega) | omega | (simp only [World.size_alloc, World.size_setCell, World.size_drew]; omega)))))).mono ?_
      rintro e w' ⟨a3, c3, S, rfl, hown, hS, y3, rfl⟩
      have hs3 := y3.bel.size
      have O3 := Lib.hid (Owns.of hown)
      replace hS := Lib.hid hS
      clear hown
      have e := hS.out trivial
      subst e
      go_wp2_with fail
      with_reducible refine (CE.out _ _ _ _ rfl (O3.out.row.bel (by (repeat (first | (with_reducible exact Below.refl _ _) | (with_reducible assumption) | (with_reducible refine Later.out _ ?_) | (with_reducible refine bel_alloc ?_ _) | (with_reducible refine bel_drew ?_) | (with_reducible refine bel_drewN ?_ _) | (with_reducible refine bel_set ?_ ?_ _) | (with_reducible refine After.out _ ?_ ?_) | (dsimp only; omega) | omega | (simp only [World.size_alloc, World.size_setCell, World.size_drew]; omega))))) (hr'.out.bel (by (repeat (first | (with_reducible exact Below.refl _ _) | (with_reducible assumption) | (with_reducible refine Later.out _ ?_) | (with_reducible refine bel_alloc ?_ _) | (with_reducible refine bel_drew ?_) | (with_reducible refine bel_drewN ?_ _) | (with_reducible refine bel_set ?_ ?_ _) | (with_reducible refine After.out _ ?_ ?_) | (dsimp only; omega) | omega | (simp only [World.size_alloc, World.size_setCell, World.size_drew]; omega)))))).mono ?_
      rintro e w' ⟨rfl, y4, rfl⟩
      have hsy4 := y4.bel.size
      (try simp only [World.size_alloc, World.size_setCell, World.size_drew] at hsy4)
      go_wp2_with fail
      refine bodyPost_ret (by simp [results, Tryz.results7, go_sem, ↓IntWalk.iteOmega, *]; try rfl) rfl ?_
      exact .mk (by rw [XB.out, XC.out]) (by (repeat (first | (with_reducible exact Below.refl _ _) | (with_reducible assumption) | (with_reducible refine Later.out _ ?_) | (with_reducible refine bel_alloc ?_ _) | (with_reducible refine bel_drew ?_) | (with_reducible refine bel_drewN ?_ _) | (with_reducible refine bel_set ?_ ?_ _) | (with_reducible refine After.out _ ?_ ?_) | (dsimp only; omega) | omega | (simp only [World.size_alloc, World.size_setCell, World.size_drew]; omega))))
  · have XC := Lib.hid (show irC T s = ruC T s by simp [irC, hc])
    have XB := Lib.hid (show irB T s = false by simp [irB, irC, hc])
    obtain ⟨t, ht⟩ : ∃ t, ruT T s = t := ⟨_, rfl⟩
    obtain ⟨C, hC⟩ : ∃ C, ruC T s = C := ⟨_, rfl⟩
    rw [hC] at XC hc
    simp only [ht, hC] at CR
    have hc1 : (C != 0) = true := by simpa using hc
    have hc2 : (C == 0) = false := by simpa using hc
    replace CR := Lib.hid CR
    replace hr := Lib.hid hr
    replace hr' := Lib.hid hr'
    clear hok hsz ht hC
    go_enter Tryz.func7, Tryz.ntmps7
    go_wp2_with fail
    with_reducible refine (CR.out _ (hr.out.bel (by (repeat (first | (with_reducible exact Below.refl _ _) | (with_reducible assumption) | (with_reducible refine Later.out _ ?_) | (with_reducible refine bel_alloc ?_ _) | (with_reducible refine bel_drew ?_) | (with_reducible refine bel_drewN ?_ _) | (with_reducible refine bel_set ?_ ?_ _) | (with_reducible refine After.out _ ?_ ?_) | (dsimp only; omega) | omega | (simp only [World.size_alloc, World.size_setCell, World.size_drew]; omega))))) (hr'.out.bel (by (repeat (first | (with_reducible exact Below.refl _ _) | (with_reducible assumption) | (with_reducible refine Later.out _ ?_) | (with_reducible refine bel_alloc ?_ _) | (with_reducible refine bel_drew ?_) | (with_reducible refine bel_drewN ?_ _) | (with_reducible refine bel_set ?_ ?_ _) | (with_reducible refine After.out _ ?_ ?_) | (dsimp only; omega) | omega | (simp only [World.size_alloc, World.size_setCell, World.size_drew]; omega)))))).mono ?_
    rintro e w' ⟨rfl, y1, rfl⟩
    have hsy1 := y1.bel.size
    (try simp only [World.size_alloc, World.size_setCell, World.size_drew] at hsy1)
    go_wp2_with fail
    refine bodyPost_ret (by simp [results, Tryz.results7, go_sem, ↓IntWalk.iteOmega, *]; try rfl) rfl ?_
    exact .mk (by rw [XB.out, XC.out]) (by (repeat (first | (with_reducible exact Below.refl _ _) | (with_reducible assumption) | (with_reducible refine Later.out _ ?_) | (with_reducible refine bel_alloc ?_ _) | (with_reducible refine bel_drew ?_) | (with_reducible refine bel_drewN ?_ _) | (with_reducible refine bel_set ?_ ?_ _) | (with_reducible refine After.out _ ?_ ?_) | (dsimp only; omega) | omega | (simp only [World.size_alloc, World.size_setCell, World.size_drew]; omega))))
end Go.Proofs.YtemfhcmeeldngaaGreatDoor

import Derived.Test.YtcpddgkloeklaaaGreatDoorPick
import Derived.Test.YtcpddgkloeklaaaGreatDoorConsA
/- Claims that are chosen or left: both sides. -/
set_option linter.unusedSimpArgs false
set_option linter.unusedVariables false
namespace Go.Proofs.YtcpddgkloeklaaaGreatDoor
open Go.RowKit
set_option maxHeartbeats 1000000 in
theorem indexInt_any (x : Int) (S : List Int) (a : Option Addr) (n c : Nat) (w : World) (hn : S.length = n) (hm : n ≤ 1048576) (hr : Row w a (intCells S)) :
    Calls Tryz.prog 153 #[.slice a n c, .int .i64 x] w (Ret w (.int .i64 (idxI x S))) := by
  subst hn
  replace hr := Lib.hid hr
  go_enter Tryz.func153, Tryz.ntmps153
  go_wp2_with fail
  go_loopw [8] (fun i wr => ∃ k : Nat, k ≤ S.length ∧ i = .int .i64 k ∧ (∀ j (hj : j < S.length), j < k → S[j] ≠ x) ∧ ∃ z : Later w, wr = z.w) (fun i _ => S.length - (intOf i).toNat)
  case atStart => exact ⟨0, Nat.zero_le _, rfl, fun j _ h => absurd h (by omega), ⟨_, Below.refl _ _⟩, rfl⟩
  case round =>
    obtain ⟨k, hk, rfl, hall, z, rfl⟩ := hrel
    replace hall := Lib.hid hall
    by_cases hlt : k < S.length
    · obtain ⟨b, o, rfl, hb, hc⟩ := hr.out.int hlt
      have hi1 : (k : Int) < (S.length : Int) := by omega
      by_cases e : S[k] = x
      · have X := Lib.hid (idxI_some hlt e fun j hj h => hall.out j hj h)
        have e1 : (x == S[k]) = true := by simp [e]
        clear e
        go_wp2_with fail
        go_ret
        exact .mk (by rw [X.out]; rfl) (by (repeat (first | (with_reducible exact Below.refl _ _) | (with_reducible assumption) | (with_reducible refine Later.out _ ?_) | (with_reducible refine bel_alloc ?_ _) | (with_reducible refine bel_drew ?_) | (with_reducible refine bel_drewN ?_ _) | (with_reducible refine bel_set ?_ ?_ _) | (with_reducible refine After.out _ ?_ ?_) | (dsimp only; omega) | omega | (simp only [World.size_alloc, World.size_setCell, World.size_drew]; omega))))
      · have X := Lib.hid (show ∀ j (hj : j < S.length), j < k + 1 → S[j] ≠ x from fun j hj h => by
          rcases Nat.lt_or_ge j k with h1 | h1
          · exact hall.out j hj h1
          · obtain rfl : j = k := by omega
            exact e)
        have e1 : (x == S[k]) = false := by rw [beq_eq_false_iff_ne]; exact fun h => e h.symm
        clear e
        go_wp2_with fail
        go_roundw
        case rel => exact ⟨k + 1, by omega, by go_num, X.out, LaterC.mk (by (repeat (first | (with_reducible exact Below.refl _ _) | (with_reducible assumption) | (with_reducible refine Later.out _ ?_) | (with_reducible refine bel_alloc ?_ _) | (with_reducible refine bel_drew ?_) | (with_reducible refine bel_drewN ?_ _) | (with_reducible refine bel_set ?_ ?_ _) | (with_reducible refine After.out _ ?_ ?_) | (dsimp only; omega) | omega | (simp only [World.size_alloc, World.size_setCell, World.size_drew]; omega))))⟩
        case measure => first | (simp [intOf]; done) | (simp [intOf]; omega) | omega
    · obtain rfl : k = S.length := by omega
      have X := Lib.hid (idxI_none (S := S) (x := x) fun j hj => hall.out j hj hj)
      go_wp2_with fail
      go_ret
      exact .mk (by rw [X.out]; rfl) (by (repeat (first | (with_reducible exact Below.refl _ _) | (with_reducible assumption) | (with_reducible refine Later.out _ ?_) | (with_reducible refine bel_alloc ?_ _) | (with_reducible refine bel_drew ?_) | (with_reducible refine bel_drewN ?_ _) | (with_reducible refine bel_set ?_ ?_ _) | (with_reducible refine After.out _ ?_ ?_) | (dsimp only; omega) | omega | (simp only [World.size_alloc, World.size_setCell, World.size_drew]; omega))))
theorem containsInt_any (x : Int) (S : List Int) (a : Option Addr) (n c : Nat) (w : World) (hn : S.length = n) (hm : n ≤ 1048576) (hr : Row w a (intCells S)) :
    Calls Tryz.prog 121 #[.slice a n c, .int .i64 x] w (Ret w (.bool (S.contains x))) := by
  have X := Lib.hid (idxI_mem x S)
  have C := Lib.hid (fun w hr => indexInt_any x S a n c w hn hm hr)
  replace hr := Lib.hid hr
  go_enter Tryz.func121, Tryz.ntmps121
  go_wp2_with fail
  with_reducible refine (C.out _ (hr.out.bel (by (repeat (first | (with_reducible exact Below.refl _ _) | (with_reducible assumption) | (with_reducible refine Later.out _ ?_) | (with_reducible refine bel_alloc ?_ _) | (with_reducible refine bel_drew ?_) | (with_reducible refine bel_drewN ?_ _) | (with_reducible refine bel_set ?_ ?_ _) | (with_reducible refine After.out _ ?_ ?_) | (dsimp only; omega) | omega | (simp only [World.size_alloc, World.size_setCell, World.size_drew]; omega)))))).mono ?_
  rintro e w' ⟨rfl, y1, rfl⟩
  have hsy1 := y1.bel.size
  (try simp only [World.size_alloc, World.size_setCell, World.size_drew] at hsy1)
  go_wp2_with fail
  go_ret
  exact .mk (by rw [← X.out]; rfl) (by (repeat (first | (with_reducible exact Below.refl _ _) | (with_reducible assumption) | (with_reducible refine Later.out _ ?_) | (with_reducible refine bel_alloc ?_ _) | (with_reducible refine bel_drew ?_) | (with_reducible refine bel_drewN ?_ _) | (with_reducible refine bel_set ?_ ?_ _) | (with_reducible refine After.out _ ?_ ?_) | (dsimp only; omega) | omega | (simp only [World.size_alloc, World.size_setCell, World.size_drew]; omega))))
theorem containsInt_b {x : Int} {S : List Int} {a : Option Addr} {n c : Nat} {w : World} {b : Bool} (hn : S.length = n) (hm : n ≤ 1048576) (hr : Row w a (intCells S)) (h : S.contains x = b) :
    Calls Tryz.prog 121 #[.slice a n c, .int .i64 x] w (Ret w (.bool b)) := by subst h; exact containsInt_any x S a n c w hn hm hr
set_option maxHeartbeats 1000000 in
theorem sHas_any (x : Int) (S : List Int) (a : Option Addr) (n c : Nat) (w : World) (hn : S.length = n) (hm : n ≤ 1048576) (hr : Row w a (intCells S)) :
    Calls Tryz.prog 86 #[.slice a n c, .int .i64 x] w (Ret w (.bool (S.contains x))) := by
  subst hn
  replace hr := Lib.hid hr
  go_enter Tryz.func86, Tryz.ntmps86
  go_wp2_with fail
  go_loopw [5] (fun i wr => ∃ k : Nat, k ≤ S.length ∧ i = .int .i64 k ∧ (∀ j (hj : j < S.length), j < k → S[j] ≠ x) ∧ ∃ z : Later w, wr = z.w) (fun i _ => S.length - (intOf i).toNat)
  case atStart => exact ⟨0, Nat.zero_le _, rfl, fun j _ h => absurd h (by omega), ⟨_, Below.refl _ _⟩, rfl⟩
  case round =>
    obtain ⟨k, hk, rfl, hall, z, rfl⟩ := hrel
    replace hall := Lib.hid hall
    by_cases hlt : k < S.length
    · obtain ⟨b, o, rfl, hb, hc⟩ := hr.out.int hlt
      have hi1 : (k : Int) < (S.length : Int) := by omega
      by_cases e : S[k] = x
      · have X := Lib.hid (contains_true hlt e)
        have e1 : (S[k] == x) = true := by simp [e]
        clear e
        go_wp2_with fail
        go_ret
        exact .mk (by rw [X.out]; rfl) (by (repeat (first | (with_reducible exact Below.refl _ _) | (with_reducible assumption) | (with_reducible refine Later.out _ ?_) | (with_reducible refine bel_alloc ?_ _) | (with_reducible refine bel_drew ?_) | (with_reducible refine bel_drewN ?_ _) | (with_reducible refine bel_set ?_ ?_ _) | (with_reducible refine After.out _ ?_ ?_) | (dsimp only; omega) | omega | (simp only [World.size_alloc, World.size_setCell, World.size_drew]; omega))))
      · have X := Lib.hid (show ∀ j (hj : j < S.length), j < k + 1 → S[j] ≠ x from fun j hj h => by
          rcases Nat.lt_or_ge j k with h1 | h1
          · exact hall.out j hj h1
          · obtain rfl : j = k := by omega
            exact e)
        have e1 : (S[k] == x) = false := by rw [beq_eq_false_iff_ne]; exact e
        clear e
        go_wp2_with fail
        go_roundw
        case rel => exact ⟨k + 1, by omega, by go_num, X.out, LaterC.mk (by (repeat (first | (with_reducible exact Below.refl _ _) | (with_reducible assumption) | (with_reducible refine Later.out _ ?_) | (with_reducible refine bel_alloc ?_ _) | (with_reducible refine bel_drew ?_) | (with_reducible refine bel_drewN ?_ _) | (with_reducible refine bel_set ?_ ?_ _) | (with_reducible refine After.out _ ?_ ?_) | (dsimp only; omega) | omega | (simp only [World.size_alloc, World.size_setCell, World.size_drew]; omega))))⟩
        case measure => first | (simp [intOf]; done) | (simp [intOf]; omega) | omega
    · obtain rfl : k = S.length := by omega
      have X := Lib.hid (contains_false (S := S) (x := x) fun j hj => hall.out j hj hj)
      go_wp2_with fail
      go_ret
      exact .mk (by rw [X.out]; rfl) (by (repeat (first | (with_reducible exact Below.refl _ _) | (with_reducible assumption) | (with_reducible refine Later.out _ ?_) | (with_reducible refine bel_alloc ?_ _) | (with_reducible refine bel_drew ?_) | (with_reducible refine bel_drewN ?_ _) | (with_reducible refine bel_set ?_ ?_ _) | (with_reducible refine After.out _ ?_ ?_) | (dsimp only; omega) | omega | (simp only [World.size_alloc, World.size_setCell, World.size_drew]; omega))))
theorem sHas_b {x : Int} {S : List Int} {a : Option Addr} {n c : Nat} {w : World} {b : Bool} (hn : S.length = n) (hm : n ≤ 1048576) (hr : Row w a (intCells S)) (h : S.contains x = b) :
    Calls Tryz.prog 86 #[.slice a n c, .int .i64 x] w (Ret w (.bool b)) := by subst h; exact sHas_any x S a n c w hn hm hr
set_option maxRecDepth 4000 in
set_option maxHeartbeats 2000000 in
theorem kept_any (L : List Clm) (S : List Int) (a a' : Option Addr) (n c n' c' : Nat) (w : World) (hn : L.length = n) (hn' : S.length = n') (hm : n ≤ 1048576) (hm' : n' ≤ 1048576) (hr : Row w a (clmsCells L)) (hr' : Row w a' (intCells S)) :
    Calls Tryz.prog 105 #[.slice a n c, .slice a' n' c'] w (RetOwn w 63 7 (keptL L S).length (clmsCells (keptL L S)) id) := by
  obtain ⟨ii, j1, j2, j3, j4⟩ := info_claim'
  have Jii := Lib.hid (And.intro j1 (And.intro j2 (And.intro j3 j4)))
  clear j1 j2 j3 j4
  subst hn
  have CH := Lib.hid (fun (x : Int) (w : World) (b : Bool) (hr : Row w a' (intCells S)) (h : S.contains x = b) => containsInt_b (x := x) (c := c') hn' hm' hr h)
  replace hr := Lib.hid hr
  replace hr' := Lib.hid hr'
  go_enter Tryz.func105, Tryz.ntmps105
  go_wp2_with fail
  go_loopw [5, 10] (fun t5 i wr => ∃ (k : Nat) (a5 : Option Addr) (c5 : Nat), k ≤ L.length ∧ i = .int .i64 k ∧ t5 = .slice a5 (pick L (restTo S k)).length c5 ∧ wr.ownsRow w.heap.size 63 7 (.slice a5 (pick L (restTo S k)).length c5) (pick L (restTo S k)).length (clmsCells (pick L (restTo S k))) ∧ ∃ z : Later w, wr = z.w) (fun _ i _ => L.length - (intOf i).toNat)
  case atStart => exact ⟨0, none, 0, Nat.zero_le _, rfl, rfl, World.ownsRow_nil _ _ _ _, ⟨_, Below.refl _ _⟩, rfl⟩
  case round =>
    obtain ⟨k, a5, c5, hk, rfl, rfl, hown, z, rfl⟩ := hrel
    replace hown := Lib.hid hown
    have hzz := z.bel.size
    by_cases hlt : k < L.length
    · obtain ⟨b, o, rfl, hb, q0, q1, q2, q3, q4, q5, q6⟩ := hr.out.clm hlt
      have hle := pick_rest_le L S k
      cases hv : S.contains (k : Int)
      · have X := Lib.hid (pick_rest_yes hlt hv)
        replace hv := Lib.hid hv
        obtain ⟨N, hN⟩ : ∃ N, pick L (restTo S k) = N := ⟨_, rfl⟩
        rw [hN] at hown X hle
        simp only [hN]
        clear hN
        go_wp2_with fail
        with_reducible refine (CH.out _ _ _ (hr'.out.bel (by (repeat (first | (with_reducible exact Below.refl _ _) | (with_reducible assumption) | (with_reducible refine Later.out _ ?_) | (with_reducible refine bel_alloc ?_ _) | (with_reducible refine bel_drew ?_) | (with_reducible refine bel_drewN ?_ _) | (with_reducible refine bel_set ?_ ?_ _) | (with_reducible refine After.out _ ?_ ?_) | (dsimp only; omega) | omega | (simp only [World.size_alloc, World.size_setCell, World.size_drew]; omega))))) hv.out).mono ?_
        rintro e w' ⟨rfl, y1, rfl⟩
        have hsy1 := y1.bel.size
        (try simp only [World.size_alloc, World.size_setCell, World.size_drew] at hsy1)
        go_wp2_with (at_builtin; (refine wpList_append_later _ rfl _ _ _ rfl 63 ii _ 7 80 Tryz.underlying27 Jii.out.1 Jii.out.2.1 Jii.out.2.2.1 Jii.out.2.2.2 rfl (by decide) (w) ?qa1 _ _ _ (clmsCells N) rfl ?qa2 _ _ _ (clmCells L[k]) rfl ?qa3 ?qa4 ?qa5 ?qa6 ?qa7 ?_); (case qa1 => (repeat (first | (with_reducible exact Below.refl _ _) | (with_reducible assumption) | (with_reducible refine Later.out _ ?_) | (with_reducible refine bel_alloc ?_ _) | (with_reducible refine bel_drew ?_) | (with_reducible refine bel_drewN ?_ _) | (with_reducible refine bel_set ?_ ?_ _) | (with_reducible refine After.out _ ?_ ?_) | (dsimp only; omega) | omega | (simp only [World.size_alloc, World.size_setCell, World.size_drew]; omega)))); (case qa2 => exact own_bel hown.out (by (repeat (first | (with_reducible exact Below.refl _ _) | (with_reducible assumption) | (with_reducible refine Later.out _ ?_) | (with_reducible refine bel_alloc ?_ _) | (with_reducible refine bel_drew ?_) | (with_reducible refine bel_drewN ?_ _) | (with_reducible refine bel_set ?_ ?_ _) | (with_reducible refine After.out _ ?_ ?_) | (dsimp only; omega) | omega | (simp only [World.size_alloc, World.size_setCell, World.size_drew]; omega))))); (case qa3 => (first | rfl | (simp [boolCells]; done) | (simp [intCells]; done) | (simp; done) | (first | omega | (simp only [List.length_append, List.length_cons, List.length_nil]; omega)))); (case qa4 => exact Row.made _ _ _); (case qa5 => exact one_clm1 _); (case qa6 => (unfold maxLen; (first | omega | (simp only [List.length_append, List.length_cons, List.length_nil]; omega)))); (case qa7 => (first | omega | (simp only [List.length_append, List.length_cons, List.length_nil]; omega))); intro a9 c9 x9 hown9)
        replace hown9 := Lib.hid hown9
        go_roundw
        case rel => exact ⟨k + 1, a9, c9, by omega, by go_num, by rw [X.out]; simp, by rw [X.out, clmsCells_snoc]; simpa using hown9.out, x9, rfl⟩
        case measure => first | (simp [intOf]; done) | (simp [intOf]; omega) | omega
      · have X := Lib.hid (pick_rest_no (L := L) hv)
        replace hv := Lib.hid hv
        go_wp2_with fail
        with_reducible refine (CH.out _ _ _ (hr'.out.bel (by (repeat (first | (with_reducible exact Below.refl _ _) | (with_reducible assumption) | (with_reducible refine Later.out _ ?_) | (with_reducible refine bel_alloc ?_ _) | (with_reducible refine bel_drew ?_) | (with_reducible refine bel_drewN ?_ _) | (with_reducible refine bel_set ?_ ?_ _) | (with_reducible refine After.out _ ?_ ?_) | (dsimp only; omega) | omega | (simp only [World.size_alloc, World.size_setCell, World.size_drew]; omega))))) hv.out).mono ?_
        rintro e w' ⟨rfl, y1, rfl⟩
        have hsy1 := y1.bel.size
        (try simp only [World.size_alloc, World.size_setCell, World.size_drew] at hsy1)
        go_wp2_with fail
        go_roundw
        case rel => exact ⟨k + 1, a5, c5, by omega, by go_num, by rw [X.out], by rw [X.out]; exact own_bel hown.out (by (repeat (first | (with_reducible exact Below.refl _ _) | (with_reducible assumption) | (with_reducible refine Later.out _ ?_) | (with_reducible refine bel_alloc ?_ _) | (with_reducible refine bel_drew ?_) | (with_reducible refine bel_drewN ?_ _) | (with_reducible refine bel_set ?_ ?_ _) | (with_reducible refine After.out _ ?_ ?_) | (dsimp only; omega) | omega | (simp only [World.size_alloc, World.size_setCell, World.size_drew]; omega)))), LaterC.mk (by (repeat (first | (with_reducible exact Below.refl _ _) | (with_reducible assumption) | (with_reducible refine Later.out _ ?_) | (with_reducible refine bel_alloc ?_ _) | (with_reducible refine bel_drew ?_) | (with_reducible refine bel_drewN ?_ _) | (with_reducible refine bel_set ?_ ?_ _) | (with_reducible refine After.out _ ?_ ?_) | (dsimp only; omega) | omega | (simp only [World.size_alloc, World.size_setCell, World.size_drew]; omega))))⟩
        case measure => first | (simp [intOf]; done) | (simp [intOf]; omega) | omega
    · obtain rfl : k = L.length := by omega
      go_wp2_with fail
      go_ret
      exact RetOwn.mk _ rfl hown.out z.bel
set_option maxRecDepth 4000 in
set_option maxHeartbeats 2000000 in
theorem sRest_any (L : List Clm) (S : List Int) (a a' : Option Addr) (n c n' c' : Nat) (w : World) (hn : L.length = n) (hn' : S.length = n') (hm : n ≤ 1048576) (hm' : n' ≤ 1048576) (hr' : Row w a' (intCells S)) :
    Calls Tryz.prog 104 #[.slice a n c, .slice a' n' c'] w (RetOwn w 2 1 (restTo S n).length (intCells (restTo S n)) id) := by
  obtain ⟨ii, j1, j2, j3, j4⟩ := info_i64'
  have Jii := Lib.hid (And.intro j1 (And.intro j2 (And.intro j3 j4)))
  clear j1 j2 j3 j4
  clear hn
  have CH := Lib.hid (fun (x : Int) (w : World) (b : Bool) (hr : Row w a' (intCells S)) (h : S.contains x = b) => sHas_b (x := x) (c := c') hn' hm' hr h)
  replace hr' := Lib.hid hr'
  have hown0 := Lib.hid (World.ownsRow_lit (base := w.heap.size) (e := 2) (size := 1) w #[] 0 (Nat.le_refl _) (by unfold maxLen; omega) rfl)
  go_enter Tryz.func104, Tryz.ntmps104
  go_wp2_with fail
  go_loopw [5, 6] (fun t5 i wr => ∃ (k : Nat) (a5 : Option Addr) (c5 : Nat), k ≤ n ∧ i = .int .i64 k ∧ t5 = .slice a5 (restTo S k).length c5 ∧ wr.ownsRow w.heap.size 2 1 (.slice a5 (restTo S k).length c5) (restTo S k).length (intCells (restTo S k)) ∧ ∃ z : Later w, wr = z.w) (fun _ i _ => n - (intOf i).toNat)
  case atStart => exact ⟨0, _, _, Nat.zero_le _, rfl, rfl, hown0.out, LaterC.mk (by (repeat (first | (with_reducible exact Below.refl _ _) | (with_reducible assumption) | (with_reducible refine Later.out _ ?_) | (with_reducible refine bel_alloc ?_ _) | (with_reducible refine bel_drew ?_) | (with_reducible refine bel_drewN ?_ _) | (with_reducible refine bel_set ?_ ?_ _) | (with_reducible refine After.out _ ?_ ?_) | (dsimp only; omega) | omega | (simp only [World.size_alloc, World.size_setCell, World.size_drew]; omega))))⟩
  case round =>
    obtain ⟨k, a5, c5, hk, rfl, rfl, hown, z, rfl⟩ := hrel
    replace hown := Lib.hid hown
    have hzz := z.bel.size
    clear hown0
    by_cases hlt : k < n
    · have hle := restTo_le S k
      cases hv : S.contains (k : Int)
      · have X := Lib.hid (restTo_yes hv)
        replace hv := Lib.hid hv
        obtain ⟨N, hN⟩ : ∃ N, restTo S k = N := ⟨_, rfl⟩
        rw [hN] at hown X hle
        simp only [hN]
        clear hN
        go_wp2_with fail
        with_reducible refine (CH.out _ _ _ (hr'.out.bel (by (repeat (first | (with_reducible exact Below.refl _ _) | (with_reducible assumption) | (with_reducible refine Later.out _ ?_) | (with_reducible refine bel_alloc ?_ _) | (with_reducible refine bel_drew ?_) | (with_reducible refine bel_drewN ?_ _) | (with_reducible refine bel_set ?_ ?_ _) | (with_reducible refine After.out _ ?_ ?_) | (dsimp only; omega) | omega | (simp only [World.size_alloc, World.size_setCell, World.size_drew]; omega))))) hv.out).mono ?_
        rintro e w' ⟨rfl, y1, rfl⟩
        have hsy1 := y1.bel.size
        (try simp only [World.size_alloc, World.size_setCell, World.size_drew] at hsy1)
        go_wp2_with (at_builtin; (refine wpList_append_later _ rfl _ _ _ rfl 2 ii _ 1 8 Tryz.underlying23 Jii.out.1 Jii.out.2.1 Jii.out.2.2.1 Jii.out.2.2.2 rfl (by decide) (w) ?qa8 _ _ _ (intCells N) rfl ?qa9 _ _ _ ([.int .i64 k]) rfl ?qa10 ?qa11 ?qa12 ?qa13 ?qa14 ?_); (case qa8 => (repeat (first | (with_reducible exact Below.refl _ _) | (with_reducible assumption) | (with_reducible refine Later.out _ ?_) | (with_reducible refine bel_alloc ?_ _) | (with_reducible refine bel_drew ?_) | (with_reducible refine bel_drewN ?_ _) | (with_reducible refine bel_set ?_ ?_ _) | (with_reducible refine After.out _ ?_ ?_) | (dsimp only; omega) | omega | (simp only [World.size_alloc, World.size_setCell, World.size_drew]; omega)))); (case qa9 => exact own_bel hown.out (by (repeat (first | (with_reducible exact Below.refl _ _) | (with_reducible assumption) | (with_reducible refine Later.out _ ?_) | (with_reducible refine bel_alloc ?_ _) | (with_reducible refine bel_drew ?_) | (with_reducible refine bel_drewN ?_ _) | (with_reducible refine bel_set ?_ ?_ _) | (with_reducible refine After.out _ ?_ ?_) | (dsimp only; omega) | omega | (simp only [World.size_alloc, World.size_setCell, World.size_drew]; omega))))); (case qa10 => (first | rfl | (simp [boolCells]; done) | (simp [intCells]; done) | (simp; done) | (first | omega | (simp only [List.length_append, List.length_cons, List.length_nil]; omega)))); (case qa11 => exact Row.made _ _ _); (case qa12 => (intro u hu; simp at hu; subst hu; rfl)); (case qa13 => (unfold maxLen; (first | omega | (simp only [List.length_append, List.length_cons, List.length_nil]; omega)))); (case qa14 => (first | omega | (simp only [List.length_append, List.length_cons, List.length_nil]; omega))); intro a9 c9 x9 hown9)
        replace hown9 := Lib.hid hown9
        go_roundw
        case rel => exact ⟨k + 1, a9, c9, by omega, by go_num, by rw [X.out]; simp, by rw [X.out, intCells_snoc]; simpa using hown9.out, x9, rfl⟩
        case measure => first | (simp [intOf]; done) | (simp [intOf]; omega) | omega
      · have X := Lib.hid (restTo_no hv)
        replace hv := Lib.hid hv
        go_wp2_with fail
        with_reducible refine (CH.out _ _ _ (hr'.out.bel (by (repeat (first | (with_reducible exact Below.refl _ _) | (with_reducible assumption) | (with_reducible refine Later.out _ ?_) | (with_reducible refine bel_alloc ?_ _) | (with_reducible refine bel_drew ?_) | (with_reducible refine bel_drewN ?_ _) | (with_reducible refine bel_set ?_ ?_ _) | (with_reducible refine After.out _ ?_ ?_) | (dsimp only; omega) | omega | (simp only [World.size_alloc, World.size_setCell, World.size_drew]; omega))))) hv.out).mono ?_
        rintro e w' ⟨rfl, y1, rfl⟩
        have hsy1 := y1.bel.size
        (try simp only [World.size_alloc, World.size_setCell, World.size_drew] at hsy1)
        go_wp2_with fail
        go_roundw
        case rel => exact ⟨k + 1, a5, c5, by omega, by go_num, by rw [X.out], by rw [X.out]; exact own_bel hown.out (by (repeat (first | (with_reducible exact Below.refl _ _) | (with_reducible assumption) | (with_reducible refine Later.out _ ?_) | (with_reducible refine bel_alloc ?_ _) | (with_reducible refine bel_drew ?_) | (with_reducible refine bel_drewN ?_ _) | (with_reducible refine bel_set ?_ ?_ _) | (with_reducible refine After.out _ ?_ ?_) | (dsimp only; omega) | omega | (simp only [World.size_alloc, World.size_setCell, World.size_drew]; omega)))), LaterC.mk (by (repeat (first | (with_reducible exact Below.refl _ _) | (with_reducible assumption) | (with_reducible refine Later.out _ ?_) | (with_reducible refine bel_alloc ?_ _) | (with_reducible refine bel_drew ?_) | (with_reducible refine bel_drewN ?_ _) | (with_reducible refine bel_set ?_ ?_ _) | (with_reducible refine After.out _ ?_ ?_) | (dsimp only; omega) | omega | (simp only [World.size_alloc, World.size_setCell, World.size_drew]; omega))))⟩
        case measure => first | (simp [intOf]; done) | (simp [intOf]; omega) | omega
    · obtain rfl : k = n := by omega
      go_wp2_with fail
      go_ret
      exact RetOwn.mk _ rfl hown.out z.bel
theorem pick_full (L : List Clm) (S : List Int) : pick L (S.take S.length) = pick L S := by rw [List.take_length]
set_option maxRecDepth 4000 in
set_option maxHeartbeats 2000000 in
theorem sChosen_any (L : List Clm) (S : List Int) (a a' : Option Addr) (n c n' c' : Nat) (w : World) (hn : L.length = n) (hn' : S.length = n') (hm : n ≤ 1048576) (hm' : n' ≤ 1048576) (hr : Row w a (clmsCells L)) (hr' : Row w a' (intCells S)) (hin : Within L.length S) :
    Calls Tryz.prog 61 #[.slice a n c, .slice a' n' c'] w (RetOwn w 63 7 (pick L S).length (clmsCells (pick L S)) id) := by
  obtain ⟨ii, j1, j2, j3, j4⟩ := info_claim'
  have Jii := Lib.hid (And.intro j1 (And.intro j2 (And.intro j3 j4)))
  clear j1 j2 j3 j4
  subst hn hn'
  replace hr := Lib.hid hr
  replace hr' := Lib.hid hr'
  replace hin := Lib.hid hin
  have hown0 := Lib.hid (World.ownsRow_lit (base := w.heap.size) (e := 63) (size := 7) w #[] 0 (Nat.le_refl _) (by unfold maxLen; omega) rfl)
  have PF := Lib.hid (pick_full L S)
  go_enter Tryz.func61, Tryz.ntmps61
  go_wp2_with fail
  go_loopw [5, 6] (fun t5 i wr => ∃ (k : Nat) (a5 : Option Addr) (c5 : Nat), k ≤ S.length ∧ i = .int .i64 k ∧ t5 = .slice a5 (pick L (S.take k)).length c5 ∧ wr.ownsRow w.heap.size 63 7 (.slice a5 (pick L (S.take k)).length c5) (pick L (S.take k)).length (clmsCells (pick L (S.take k))) ∧ ∃ z : Later w, wr = z.w) (fun _ i _ => S.length - (intOf i).toNat)
  case atStart => exact ⟨0, _, _, Nat.zero_le _, rfl, rfl, hown0.out, LaterC.mk (by (repeat (first | (with_reducible exact Below.refl _ _) | (with_reducible assumption) | (with_reducible refine Later.out _ ?_) | (with_reducible refine bel_alloc ?_ _) | (with_reducible refine bel_drew ?_) | (with_reducible refine bel_drewN ?_ _) | (with_reducible refine bel_set ?_ ?_ _) | (with_reducible refine After.out _ ?_ ?_) | (dsimp only; omega) | omega | (simp only [World.size_alloc, World.size_setCell, World.size_drew]; omega))))⟩
  case round =>
    obtain ⟨k, a5, c5, hk, rfl, rfl, hown, z, rfl⟩ := hrel
    replace hown := Lib.hid hown
    have hzz := z.bel.size
    clear hown0
    by_cases hlt : k < S.length
    · have hle := pick_take_le L S k (by omega)
      have hix := hin.out.at_ hlt
      have X := Lib.hid (pick_take hlt (show S[k].toNat < L.length by omega))
      obtain ⟨b', o', rfl, hb', hc'⟩ := hr'.out.int hlt
      obtain ⟨N, hN⟩ : ∃ N, pick L (S.take k) = N := ⟨_, rfl⟩
      rw [hN] at hown X hle
      simp only [hN]
      obtain ⟨m, hm⟩ : ∃ m : Nat, S[k] = m := ⟨S[k].toNat, by omega⟩
      rw [hm] at hc' hix
      have hml : m < L.length := by omega
      have X2 := Lib.hid (show pick L (S.take (k + 1)) = N ++ [L[m]] by rw [X.out]; simp [hm])
      clear hN hm X
      obtain ⟨b, o, rfl, hb, q0, q1, q2, q3, q4, q5, q6⟩ := hr.out.clm hml
      have hi1 : (k : Int) < (S.length : Int) := by omega
      have hi2 : (m : Int) < (L.length : Int) := by omega
      go_wp2_with (at_builtin; (refine wpList_append_later _ rfl _ _ _ rfl 63 ii _ 7 80 Tryz.underlying27 Jii.out.1 Jii.out.2.1 Jii.out.2.2.1 Jii.out.2.2.2 rfl (by decide) (w) ?qa15 _ _ _ (clmsCells N) rfl ?qa16 _ _ _ (clmCells L[m]) rfl ?qa17 ?qa18 ?qa19 ?qa20 ?qa21 ?_); (case qa15 => (repeat (first | (with_reducible exact Below.refl _ _) | (with_reducible assumption) | (with_reducible refine Later.out _ ?_) | (with_reducible refine bel_alloc ?_ _) | (with_reducible refine bel_drew ?_) | (with_reducible refine bel_drewN ?_ _) | (with_reducible refine bel_set ?_ ?_ _) | (with_reducible refine After.out _ ?_ ?_) | (dsimp only; omega) | omega | (simp only [World.size_alloc, World.size_setCell, World.size_drew]; omega)))); (case qa16 => exact own_bel hown.out (by (repeat (first | (with_reducible exact Below.refl _ _) | (with_reducible assumption) | (with_reducible refine Later.out _ ?_) | (with_reducible refine bel_alloc ?_ _) | (with_reducible refine bel_drew ?_) | (with_reducible refine bel_drewN ?_ _) | (with_reducible refine bel_set ?_ ?_ _) | (with_reducible refine After.out _ ?_ ?_) | (dsimp only; omega) | omega | (simp only [World.size_alloc, World.size_setCell, World.size_drew]; omega))))); (case qa17 => (first | rfl | (simp [boolCells]; done) | (simp [intCells]; done) | (simp; done) | (first | omega | (simp only [List.length_append, List.length_cons, List.length_nil]; omega)))); (case qa18 => exact Row.made _ _ _); (case qa19 => exact one_clm1 _); (case qa20 => (unfold maxLen; (first | omega | (simp only [List.length_append, List.length_cons, List.length_nil]; omega)))); (case qa21 => (first | omega | (simp only [List.length_append, List.length_cons, List.length_nil]; omega))); intro a9 c9 x9 hown9)
      replace hown9 := Lib.hid hown9
      go_roundw
      case rel => exact ⟨k + 1, a9, c9, by omega, by go_num, by rw [X2.out]; simp, by rw [X2.out, clmsCells_snoc]; simpa using hown9.out, x9, rfl⟩
      case measure => first | (simp [intOf]; done) | (simp [intOf]; omega) | omega
    · obtain rfl : k = S.length := by omega
      rw [PF.out] at hown ⊢
      go_wp2_with fail
      go_ret
      exact RetOwn.mk _ rfl hown.out z.bel
end Go.Proofs.YtcpddgkloeklaaaGreatDoor

import Derived.Test.YtcpddgkloeklaaaGreatDoorKept
import Derived.Test.YtcpddgkloeklaaaGreatDoorCons
import Derived.Test.YtcpddgkloeklaaaGreatDoorConsS
import Derived.Test.YtcpddgkloeklaaaGreatDoorGood
/- Repairs: both sides; chosen claims of the program. -/
set_option linter.unusedSimpArgs false
set_option linter.unusedVariables false
namespace Go.Proofs.YtcpddgkloeklaaaGreatDoor
open Go.RowKit
theorem named_pick {L : List Clm} (h : Named L) (S : List Int) : Named (pick L S) := fun c hc => h c (pick_mem hc)
section
variable (L : List Clm) (S : List Int) (a a' : Option Addr) (n c n' c' : Nat) (w : World) (hn : L.length = n) (hn' : S.length = n') (hm : n ≤ 1048576) (hm' : n' ≤ 1048576) (hr : Row w a (clmsCells L)) (hr' : Row w a' (intCells S))
include hn hn' hm hm' hr hr'
set_option maxHeartbeats 1000000 in
theorem isRepair_any : Calls Tryz.prog 70 #[.slice a n c, .slice a' n' c'] w (Ret w (.bool (repG L S))) := by
  have C1 := Lib.hid (fun w hr hr' => kept_any L S a a' n c n' c' w hn hn' hm hm' hr hr')
  have hle := keptL_le L S
  have C2 := Lib.hid (fun a c w hc hr => areConsistent_any (keptL L S) a (keptL L S).length c w rfl (by omega) hc hr)
  replace hr := Lib.hid hr
  replace hr' := Lib.hid hr'
  go_enter Tryz.func70, Tryz.ntmps70
  go_wp2_with fail
  with_reducible refine (C1.out _ (hr.out.bel (by (repeat (first | (with_reducible exact Below.refl _ _) | (with_reducible assumption) | (with_reducible refine Later.out _ ?_) | (with_reducible refine bel_alloc ?_ _) | (with_reducible refine bel_drew ?_) | (with_reducible refine bel_drewN ?_ _) | (with_reducible refine bel_set ?_ ?_ _) | (with_reducible refine After.out _ ?_ ?_) | (dsimp only; omega) | omega | (simp only [World.size_alloc, World.size_setCell, World.size_drew]; omega))))) (hr'.out.bel (by (repeat (first | (with_reducible exact Below.refl _ _) | (with_reducible assumption) | (with_reducible refine Later.out _ ?_) | (with_reducible refine bel_alloc ?_ _) | (with_reducible refine bel_drew ?_) | (with_reducible refine bel_drewN ?_ _) | (with_reducible refine bel_set ?_ ?_ _) | (with_reducible refine After.out _ ?_ ?_) | (dsimp only; omega) | omega | (simp only [World.size_alloc, World.size_setCell, World.size_drew]; omega)))))).mono ?_
  rintro e w' ⟨a2, c2, rfl, hown, y2, rfl⟩
  have hsy2 := y2.bel.size
  (try simp only [World.size_alloc, World.size_setCell, World.size_drew] at hsy2)
  have H2 := Lib.hid (Owns.of hown)
  clear hown
  go_wp2_with fail
  with_reducible refine (C2.out _ _ _ H2.out.cap H2.out.row).mono ?_
  rintro e w' ⟨rfl, y3, rfl⟩
  have hsy3 := y3.bel.size
  (try simp only [World.size_alloc, World.size_setCell, World.size_drew] at hsy3)
  go_wp2_with fail
  go_ret
  exact .mk rfl (by (repeat (first | (with_reducible exact Below.refl _ _) | (with_reducible assumption) | (with_reducible refine Later.out _ ?_) | (with_reducible refine bel_alloc ?_ _) | (with_reducible refine bel_drew ?_) | (with_reducible refine bel_drewN ?_ _) | (with_reducible refine bel_set ?_ ?_ _) | (with_reducible refine After.out _ ?_ ?_) | (dsimp only; omega) | omega | (simp only [World.size_alloc, World.size_setCell, World.size_drew]; omega))))
set_option maxHeartbeats 1000000 in
theorem sRepair_any (hv : Named L) : Calls Tryz.prog 69 #[.slice a n c, .slice a' n' c'] w (Ret w (.bool (repG L S))) := by
  have hrl := restTo_le S n
  have C1 := Lib.hid (fun w hr' => sRest_any L S a a' n c n' c' w hn hn' hm hm' hr')
  have C2 := Lib.hid (fun a3 c3 w hr h3 => sChosen_any L (restTo S n) a a3 n c (restTo S n).length c3 w hn rfl hm (by omega) hr h3 (hn ▸ restTo_within S n))
  have hle := pick_le L (restTo S n)
  have C3 := Lib.hid (fun a c w hr => sCons_any (pick L (restTo S n)) a (pick L (restTo S n)).length c w rfl (by omega) hr (named_pick hv _))
  have hK := Lib.hid (show consB (pick L (restTo S n)) = repG L S by unfold repG keptL; rw [hn])
  replace hr := Lib.hid hr
  replace hr' := Lib.hid hr'
  clear hv
  go_enter Tryz.func69, Tryz.ntmps69
  go_wp2_with fail
  with_reducible refine (C1.out _ (hr'.out.bel (by (repeat (first | (with_reducible exact Below.refl _ _) | (with_reducible assumption) | (with_reducible refine Later.out _ ?_) | (with_reducible refine bel_alloc ?_ _) | (with_reducible refine bel_drew ?_) | (with_reducible refine bel_drewN ?_ _) | (with_reducible refine bel_set ?_ ?_ _) | (with_reducible refine After.out _ ?_ ?_) | (dsimp only; omega) | omega | (simp only [World.size_alloc, World.size_setCell, World.size_drew]; omega)))))).mono ?_
  rintro e w' ⟨a2, c2, rfl, hown, y2, rfl⟩
  have hsy2 := y2.bel.size
  (try simp only [World.size_alloc, World.size_setCell, World.size_drew] at hsy2)
  have H2 := Lib.hid (Owns.of hown)
  clear hown
  go_wp2_with fail
  with_reducible refine (C2.out _ _ _ (hr.out.bel (by (repeat (first | (with_reducible exact Below.refl _ _) | (with_reducible assumption) | (with_reducible refine Later.out _ ?_) | (with_reducible refine bel_alloc ?_ _) | (with_reducible refine bel_drew ?_) | (with_reducible refine bel_drewN ?_ _) | (with_reducible refine bel_set ?_ ?_ _) | (with_reducible refine After.out _ ?_ ?_) | (dsimp only; omega) | omega | (simp only [World.size_alloc, World.size_setCell, World.size_drew]; omega))))) H2.out.row).mono ?_
  rintro e w' ⟨a3, c3, rfl, hown, y3, rfl⟩
  have hsy3 := y3.bel.size
  (try simp only [World.size_alloc, World.size_setCell, World.size_drew] at hsy3)
  have H3 := Lib.hid (Owns.of hown)
  clear hown
  go_wp2_with fail
  with_reducible refine (C3.out _ _ _ H3.out.row).mono ?_
  rintro e w' ⟨rfl, y4, rfl⟩
  have hsy4 := y4.bel.size
  (try simp only [World.size_alloc, World.size_setCell, World.size_drew] at hsy4)
  go_wp2_with fail
  go_ret
  exact .mk (by rw [← hK.out]; rfl) (by (repeat (first | (with_reducible exact Below.refl _ _) | (with_reducible assumption) | (with_reducible refine Later.out _ ?_) | (with_reducible refine bel_alloc ?_ _) | (with_reducible refine bel_drew ?_) | (with_reducible refine bel_drewN ?_ _) | (with_reducible refine bel_set ?_ ?_ _) | (with_reducible refine After.out _ ?_ ?_) | (dsimp only; omega) | omega | (simp only [World.size_alloc, World.size_setCell, World.size_drew]; omega))))
end
theorem pick_take_full (L : List Clm) (S : List Int) : pick L (S.take S.length) = pick L S := by rw [List.take_length]
set_option maxRecDepth 4000 in
set_option maxHeartbeats 2000000 in
theorem chosen_any (L : List Clm) (S : List Int) (a a' : Option Addr) (n c n' c' : Nat) (w : World) (hn : L.length = n) (hn' : S.length = n') (hm : n ≤ 1048576) (hm' : n' ≤ 1048576) (hr : Row w a (clmsCells L)) (hr' : Row w a' (intCells S)) (hin : Within L.length S) :
    Calls Tryz.prog 65 #[.slice a n c, .slice a' n' c'] w (RetOwn w 63 7 (pick L S).length (clmsCells (pick L S)) id) := by
  obtain ⟨ii, j1, j2, j3, j4⟩ := info_claim'
  have Jii := Lib.hid (And.intro j1 (And.intro j2 (And.intro j3 j4)))
  clear j1 j2 j3 j4
  subst hn hn'
  replace hr := Lib.hid hr
  replace hr' := Lib.hid hr'
  replace hin := Lib.hid hin
  have PF := Lib.hid (pick_take_full L S)
  go_enter Tryz.func65, Tryz.ntmps65
  go_wp2_with fail
  go_loopw [5, 10] (fun t5 i wr => ∃ (k : Nat) (a5 : Option Addr) (c5 : Nat), k ≤ S.length ∧ i = .int .i64 k ∧ t5 = .slice a5 (pick L (S.take k)).length c5 ∧ wr.ownsRow w.heap.size 63 7 (.slice a5 (pick L (S.take k)).length c5) (pick L (S.take k)).length (clmsCells (pick L (S.take k))) ∧ ∃ z : Later w, wr = z.w) (fun _ i _ => S.length - (intOf i).toNat)
  case atStart => exact ⟨0, none, 0, Nat.zero_le _, rfl, rfl, World.ownsRow_nil _ _ _ _, LaterC.mk (by (repeat (first | (with_reducible exact Below.refl _ _) | (with_reducible assumption) | (with_reducible refine Later.out _ ?_) | (with_reducible refine bel_alloc ?_ _) | (with_reducible refine bel_drew ?_) | (with_reducible refine bel_drewN ?_ _) | (with_reducible refine bel_set ?_ ?_ _) | (with_reducible refine After.out _ ?_ ?_) | (dsimp only; omega) | omega | (simp only [World.size_alloc, World.size_setCell, World.size_drew]; omega))))⟩
  case round =>
    obtain ⟨k, a5, c5, hk, rfl, rfl, hown, z, rfl⟩ := hrel
    replace hown := Lib.hid hown
    have hzz := z.bel.size
    by_cases hlt : k < S.length
    · have hle := pick_take_le L S k (by omega)
      have hix := hin.out.at_ hlt
      have X := Lib.hid (pick_take hlt (show S[k].toNat < L.length by omega))
      obtain ⟨b', o', rfl, hb', hc'⟩ := hr'.out.int hlt
      obtain ⟨N, hN⟩ : ∃ N, pick L (S.take k) = N := ⟨_, rfl⟩
      rw [hN] at hown X hle
      simp only [hN]
      obtain ⟨m, hm⟩ : ∃ m : Nat, S[k] = m := ⟨S[k].toNat, by omega⟩
      rw [hm] at hc' hix
      have hml : m < L.length := by omega
      have X2 := Lib.hid (show pick L (S.take (k + 1)) = N ++ [L[m]] by rw [X.out]; simp [hm])
      clear hN hm X
      obtain ⟨b, o, rfl, hb, q0, q1, q2, q3, q4, q5, q6⟩ := hr.out.clm hml
      have hi1 : (k : Int) < (S.length : Int) := by omega
      have hi2 : (m : Int) < (L.length : Int) := by omega
      go_wp2_with (at_builtin; (refine wpList_append_later _ rfl _ _ _ rfl 63 ii _ 7 80 Tryz.underlying27 Jii.out.1 Jii.out.2.1 Jii.out.2.2.1 Jii.out.2.2.2 rfl (by decide) (w) ?qa1 _ _ _ (clmsCells N) rfl ?qa2 _ _ _ (clmCells L[m]) rfl ?qa3 ?qa4 ?qa5 ?qa6 ?qa7 ?_); (case qa1 => (repeat (first | (with_reducible exact Below.refl _ _) | (with_reducible assumption) | (with_reducible refine Later.out _ ?_) | (with_reducible refine bel_alloc ?_ _) | (with_reducible refine bel_drew ?_) | (with_reducible refine bel_drewN ?_ _) | (with_reducible refine bel_set ?_ ?_ _) | (with_reducible refine After.out _ ?_ ?_) | (dsimp only; omega) | omega | (simp only [World.size_alloc, World.size_setCell, World.size_drew]; omega)))); (case qa2 => exact own_bel hown.out (by (repeat (first | (with_reducible exact Below.refl _ _) | (with_reducible assumption) | (with_reducible refine Later.out _ ?_) | (with_reducible refine bel_alloc ?_ _) | (with_reducible refine bel_drew ?_) | (with_reducible refine bel_drewN ?_ _) | (with_reducible refine bel_set ?_ ?_ _) | (with_reducible refine After.out _ ?_ ?_) | (dsimp only; omega) | omega | (simp only [World.size_alloc, World.size_setCell, World.size_drew]; omega))))); (case qa3 => (first | rfl | (simp [boolCells]; done) | (simp [intCells]; done) | (simp; done) | (first | omega | (simp only [List.length_append, List.length_cons, List.length_nil]; omega)))); (case qa4 => exact Row.made _ _ _); (case qa5 => exact one_clm1 _); (case qa6 => (unfold maxLen; (first | omega | (simp only [List.length_append, List.length_cons, List.length_nil]; omega)))); (case qa7 => (first | omega | (simp only [List.length_append, List.length_cons, List.length_nil]; omega))); intro a9 c9 x9 hown9)
      replace hown9 := Lib.hid hown9
      go_roundw
      case rel => exact ⟨k + 1, a9, c9, by omega, by go_num, by rw [X2.out]; simp, by rw [X2.out, clmsCells_snoc]; simpa using hown9.out, x9, rfl⟩
      case measure => first | (simp [intOf]; done) | (simp [intOf]; omega) | omega
    · obtain rfl : k = S.length := by omega
      rw [PF.out] at hown ⊢
      go_wp2_with fail
      go_ret
      exact RetOwn.mk _ rfl hown.out z.bel
end Go.Proofs.YtcpddgkloeklaaaGreatDoor

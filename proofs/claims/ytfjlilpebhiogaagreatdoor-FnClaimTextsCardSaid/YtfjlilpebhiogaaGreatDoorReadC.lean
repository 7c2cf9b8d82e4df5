import Derived.Test.YtfjlilpebhiogaaGreatDoorReadN
import Derived.Deep.RegionWith
/- Reading spans and claims: both sides. -/
set_option linter.unusedSimpArgs false
set_option linter.unusedVariables false
namespace Go.Proofs.YtfjlilpebhiogaaGreatDoor
open Go.RowKit
theorem cut_sizes (s : ByteArray) : (cutA s).size ≤ s.size ∧ (cutZ s).size ≤ s.size := by
  have hlen : s.data.toList.length = s.size := by rw [Array.length_toList]; rfl
  have key : ((Lib.cut s.data.toList [46, 46]).1).length ≤ s.size ∧ ((Lib.cut s.data.toList [46, 46]).2.1).length ≤ s.size := by
    unfold Lib.cut
    split
    · refine ⟨?_, ?_⟩
      · show (List.take _ _).length ≤ _
        rw [List.length_take]; omega
      · show (List.drop _ _).length ≤ _
        rw [List.length_drop]; omega
    · exact ⟨by show s.data.toList.length ≤ _; omega, by show ([] : List UInt8).length ≤ _; simp⟩
  unfold cutA cutZ
  refine ⟨?_, ?_⟩
  · show (List.toArray _).size ≤ _
    rw [List.size_toArray]; exact key.1
  · show (List.toArray _).size ≤ _
    rw [List.size_toArray]; exact key.2
theorem cut_any (s : ByteArray) (w : World) (hs : s.size ≤ 1048576) (hx : Max w) :
    Calls Tryz.prog 70 #[.string s, .string ⟨#[46, 46]⟩] w (Ret w (.tuple #[.string (cutA s), .string (cutZ s), .bool (Lib.cut s.data.toList [46, 46]).2.2])) := by
  obtain ⟨m, hm⟩ := hx
  exact Calls.mono (show Calls Tryz.prog 70 #[.string s, .string ⟨#[46, 46]⟩] w _ from Any.strings_Cut Tryz.lays145 s ⟨#[46, 46]⟩ m w (by omega) hm) fun e w' ⟨he, n, hw⟩ => .mk he (hw ▸ ⟨rfl, rfl, rfl, by simp, fun i hi => rfl⟩)
set_option maxHeartbeats 4000000 in
theorem readSpan_at {s A B : ByteArray} {F T : Int} {K1 K2 K3 b : Bool} (w : World) (C0 : ∀ w, Max w → Calls Tryz.prog 70 #[.string s, .string ⟨#[46, 46]⟩] w (Ret w (.tuple #[.string A, .string B, .bool b])))
    (CA : ∀ w, Env w → Calls Tryz.prog 30 #[.string A] w (Ret w (.tuple #[.int .i64 F, .bool K1]))) (CB : ∀ w, Env w → Calls Tryz.prog 30 #[.string B] w (Ret w (.tuple #[.int .i64 T, .bool K2])))
    (CI : ∀ w, Calls Tryz.prog 39 #[.agg #[.int .i64 F, .int .i64 T]] w (Ret w (.bool K3))) (hE : Env w) :
    Calls Tryz.prog 31 #[.string s] w (Ret w (.tuple #[.agg #[.int .i64 F, .int .i64 T], .bool (K1 && K2 && K3)])) := by
  replace C0 := Lib.hid C0
  replace CA := Lib.hid CA
  replace CB := Lib.hid CB
  replace CI := Lib.hid CI
  replace hE := Lib.hid hE
  cases K1
  · go_enter Tryz.func31, Tryz.ntmps31
    go_wp2_with fail
    with_reducible refine (C0.out _ (hE.out.mx.bel (by (repeat (first | (with_reducible exact Below.refl _ _) | (with_reducible assumption) | (with_reducible refine Later.out _ ?_) | (with_reducible refine bel_alloc ?_ _) | (with_reducible refine bel_drew ?_) | (with_reducible refine bel_drewN ?_ _) | (with_reducible refine bel_set ?_ ?_ _) | (with_reducible refine After.out _ ?_ ?_) | (dsimp only; omega) | omega | (simp only [World.size_alloc, World.size_setCell, World.size_drew]; omega)))))).mono ?_
    rintro e w' ⟨rfl, y1, rfl⟩
    have hsy1 := y1.bel.size
    (try simp only [World.size_alloc, World.size_setCell, World.size_drew] at hsy1)
    go_wp2_with fail
    with_reducible refine (CA.out _ (hE.out.bel (by (repeat (first | (with_reducible exact Below.refl _ _) | (with_reducible assumption) | (with_reducible refine Later.out _ ?_) | (with_reducible refine bel_alloc ?_ _) | (with_reducible refine bel_drew ?_) | (with_reducible refine bel_drewN ?_ _) | (with_reducible refine bel_set ?_ ?_ _) | (with_reducible refine After.out _ ?_ ?_) | (dsimp only; omega) | omega | (simp only [World.size_alloc, World.size_setCell, World.size_drew]; omega)))))).mono ?_
    rintro e w' ⟨rfl, y2, rfl⟩
    have hsy2 := y2.bel.size
    (try simp only [World.size_alloc, World.size_setCell, World.size_drew] at hsy2)
    go_wp2_with fail
    with_reducible refine (CB.out _ (hE.out.bel (by (repeat (first | (with_reducible exact Below.refl _ _) | (with_reducible assumption) | (with_reducible refine Later.out _ ?_) | (with_reducible refine bel_alloc ?_ _) | (with_reducible refine bel_drew ?_) | (with_reducible refine bel_drewN ?_ _) | (with_reducible refine bel_set ?_ ?_ _) | (with_reducible refine After.out _ ?_ ?_) | (dsimp only; omega) | omega | (simp only [World.size_alloc, World.size_setCell, World.size_drew]; omega)))))).mono ?_
    rintro e w' ⟨rfl, y3, rfl⟩
    have hsy3 := y3.bel.size
    (try simp only [World.size_alloc, World.size_setCell, World.size_drew] at hsy3)
    go_wp2_with fail
    first | (go_region_with (go_at_call 39; (with_reducible refine (CI.out _).mono ?_); rintro e w' ⟨rfl, y4, rfl⟩; have hs4 := y4.bel.size; (try simp only [World.size_alloc, World.size_setCell, World.size_drew] at hs4))) | fail
    all_goals
      go_wp2_with fail
      refine bodyPost_ret (by simp [results, Tryz.results31, go_sem, ↓IntWalk.iteOmega]; try rfl) rfl ?_
      exact .mk rfl (by (repeat (first | (with_reducible exact Below.refl _ _) | (with_reducible assumption) | (with_reducible refine Later.out _ ?_) | (with_reducible refine bel_alloc ?_ _) | (with_reducible refine bel_drew ?_) | (with_reducible refine bel_drewN ?_ _) | (with_reducible refine bel_set ?_ ?_ _) | (with_reducible refine After.out _ ?_ ?_) | (dsimp only; omega) | omega | (simp only [World.size_alloc, World.size_setCell, World.size_drew]; omega))))
  cases K2
  · go_enter Tryz.func31, Tryz.ntmps31
    go_wp2_with fail
    with_reducible refine (C0.out _ (hE.out.mx.bel (by (repeat (first | (with_reducible exact Below.refl _ _) | (with_reducible assumption) | (with_reducible refine Later.out _ ?_) | (with_reducible refine bel_alloc ?_ _) | (with_reducible refine bel_drew ?_) | (with_reducible refine bel_drewN ?_ _) | (with_reducible refine bel_set ?_ ?_ _) | (with_reducible refine After.out _ ?_ ?_) | (dsimp only; omega) | omega | (simp only [World.size_alloc, World.size_setCell, World.size_drew]; omega)))))).mono ?_
    rintro e w' ⟨rfl, y1, rfl⟩
    have hsy1 := y1.bel.size
    (try simp only [World.size_alloc, World.size_setCell, World.size_drew] at hsy1)
    go_wp2_with fail
    with_reducible refine (CA.out _ (hE.out.bel (by (repeat (first | (with_reducible exact Below.refl _ _) | (with_reducible assumption) | (with_reducible refine Later.out _ ?_) | (with_reducible refine bel_alloc ?_ _) | (with_reducible refine bel_drew ?_) | (with_reducible refine bel_drewN ?_ _) | (with_reducible refine bel_set ?_ ?_ _) | (with_reducible refine After.out _ ?_ ?_) | (dsimp only; omega) | omega | (simp only [World.size_alloc, World.size_setCell, World.size_drew]; omega)))))).mono ?_
    rintro e w' ⟨rfl, y2, rfl⟩
    have hsy2 := y2.bel.size
    (try simp only [World.size_alloc, World.size_setCell, World.size_drew] at hsy2)
    go_wp2_with fail
    with_reducible refine (CB.out _ (hE.out.bel (by (repeat (first | (with_reducible exact Below.refl _ _) | (with_reducible assumption) | (with_reducible refine Later.out _ ?_) | (with_reducible refine bel_alloc ?_ _) | (with_reducible refine bel_drew ?_) | (with_reducible refine bel_drewN ?_ _) | (with_reducible refine bel_set ?_ ?_ _) | (with_reducible refine After.out _ ?_ ?_) | (dsimp only; omega) | omega | (simp only [World.size_alloc, World.size_setCell, World.size_drew]; omega)))))).mono ?_
    rintro e w' ⟨rfl, y3, rfl⟩
    have hsy3 := y3.bel.size
    (try simp only [World.size_alloc, World.size_setCell, World.size_drew] at hsy3)
    go_wp2_with fail
    first | (go_region_with (go_at_call 39; (with_reducible refine (CI.out _).mono ?_); rintro e w' ⟨rfl, y4, rfl⟩; have hs4 := y4.bel.size; (try simp only [World.size_alloc, World.size_setCell, World.size_drew] at hs4))) | fail
    all_goals
      go_wp2_with fail
      refine bodyPost_ret (by simp [results, Tryz.results31, go_sem, ↓IntWalk.iteOmega]; try rfl) rfl ?_
      exact .mk rfl (by (repeat (first | (with_reducible exact Below.refl _ _) | (with_reducible assumption) | (with_reducible refine Later.out _ ?_) | (with_reducible refine bel_alloc ?_ _) | (with_reducible refine bel_drew ?_) | (with_reducible refine bel_drewN ?_ _) | (with_reducible refine bel_set ?_ ?_ _) | (with_reducible refine After.out _ ?_ ?_) | (dsimp only; omega) | omega | (simp only [World.size_alloc, World.size_setCell, World.size_drew]; omega))))
  · go_enter Tryz.func31, Tryz.ntmps31
    go_wp2_with fail
    with_reducible refine (C0.out _ (hE.out.mx.bel (by (repeat (first | (with_reducible exact Below.refl _ _) | (with_reducible assumption) | (with_reducible refine Later.out _ ?_) | (with_reducible refine bel_alloc ?_ _) | (with_reducible refine bel_drew ?_) | (with_reducible refine bel_drewN ?_ _) | (with_reducible refine bel_set ?_ ?_ _) | (with_reducible refine After.out _ ?_ ?_) | (dsimp only; omega) | omega | (simp only [World.size_alloc, World.size_setCell, World.size_drew]; omega)))))).mono ?_
    rintro e w' ⟨rfl, y1, rfl⟩
    have hsy1 := y1.bel.size
    (try simp only [World.size_alloc, World.size_setCell, World.size_drew] at hsy1)
    go_wp2_with fail
    with_reducible refine (CA.out _ (hE.out.bel (by (repeat (first | (with_reducible exact Below.refl _ _) | (with_reducible assumption) | (with_reducible refine Later.out _ ?_) | (with_reducible refine bel_alloc ?_ _) | (with_reducible refine bel_drew ?_) | (with_reducible refine bel_drewN ?_ _) | (with_reducible refine bel_set ?_ ?_ _) | (with_reducible refine After.out _ ?_ ?_) | (dsimp only; omega) | omega | (simp only [World.size_alloc, World.size_setCell, World.size_drew]; omega)))))).mono ?_
    rintro e w' ⟨rfl, y2, rfl⟩
    have hsy2 := y2.bel.size
    (try simp only [World.size_alloc, World.size_setCell, World.size_drew] at hsy2)
    go_wp2_with fail
    with_reducible refine (CB.out _ (hE.out.bel (by (repeat (first | (with_reducible exact Below.refl _ _) | (with_reducible assumption) | (with_reducible refine Later.out _ ?_) | (with_reducible refine bel_alloc ?_ _) | (with_reducible refine bel_drew ?_) | (with_reducible refine bel_drewN ?_ _) | (with_reducible refine bel_set ?_ ?_ _) | (with_reducible refine After.out _ ?_ ?_) | (dsimp only; omega) | omega | (simp only [World.size_alloc, World.size_setCell, World.size_drew]; omega)))))).mono ?_
    rintro e w' ⟨rfl, y3, rfl⟩
    have hsy3 := y3.bel.size
    (try simp only [World.size_alloc, World.size_setCell, World.size_drew] at hsy3)
    go_wp2_with fail
    first | (go_region_with (go_at_call 39; (with_reducible refine (CI.out _).mono ?_); rintro e w' ⟨rfl, y4, rfl⟩; have hs4 := y4.bel.size; (try simp only [World.size_alloc, World.size_setCell, World.size_drew] at hs4))) | fail
    all_goals
      go_wp2_with fail
      refine bodyPost_ret (by simp [results, Tryz.results31, go_sem, ↓IntWalk.iteOmega]; try rfl) rfl ?_
      exact .mk rfl (by (repeat (first | (with_reducible exact Below.refl _ _) | (with_reducible assumption) | (with_reducible refine Later.out _ ?_) | (with_reducible refine bel_alloc ?_ _) | (with_reducible refine bel_drew ?_) | (with_reducible refine bel_drewN ?_ _) | (with_reducible refine bel_set ?_ ?_ _) | (with_reducible refine After.out _ ?_ ?_) | (dsimp only; omega) | omega | (simp only [World.size_alloc, World.size_setCell, World.size_drew]; omega))))
theorem readSpan_any (s : ByteArray) (w : World) (hs : s.size ≤ 1048576) (hE : Env w) :
    Calls Tryz.prog 31 #[.string s] w (Ret w (.tuple #[.agg #[.int .i64 (numV (cutA s)), .int .i64 (numV (cutZ s))], .bool (numK (cutA s) && numK (cutZ s) && spanB (numV (cutA s)) (numV (cutZ s)))])) :=
  have hc := cut_sizes s
  readSpan_at w (fun w hx => cut_any s w hs hx) (fun w hE => readNumber_any _ w (by omega) hE) (fun w hE => readNumber_any _ w (by omega) hE) (fun w => isSpan_any _ _ w) hE
end Go.Proofs.YtfjlilpebhiogaaGreatDoor

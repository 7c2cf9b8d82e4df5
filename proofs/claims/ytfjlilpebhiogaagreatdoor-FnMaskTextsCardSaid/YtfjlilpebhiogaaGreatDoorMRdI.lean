import Derived.Test.YtfjlilpebhiogaaGreatDoorMReadL
import Derived.Test.YtfjlilpebhiogaaGreatDoorRdN
import Derived.Test.YtfjlilpebhiogaaGreatDoorTwo
import Derived.Test.YtfjlilpebhiogaaGreatDoorTail
import Derived.Test.YtfjlilpebhiogaaGreatDoorQTail
import Derived.Test.YtfjlilpebhiogaaGreatDoorPackAb
import Derived.Deep.RegionWith
/- ReadMask, the program's way. -/
set_option linter.unusedSimpArgs false
set_option linter.unusedVariables false
namespace Go.Proofs.YtfjlilpebhiogaaGreatDoor
open Go.RowKit
theorem col_sizes (s : ByteArray) : (colA s).size ≤ s.size ∧ (colZ s).size ≤ s.size := by
  have hlen : s.data.toList.length = s.size := by rw [Array.length_toList]; rfl
  have key : ((Lib.cut s.data.toList [58]).1).length ≤ s.size ∧ ((Lib.cut s.data.toList [58]).2.1).length ≤ s.size := by
    unfold Lib.cut
    split
    · refine ⟨?_, ?_⟩
      · show (List.take _ _).length ≤ _
        rw [List.length_take]; omega
      · show (List.drop _ _).length ≤ _
        rw [List.length_drop]; omega
    · exact ⟨by show s.data.toList.length ≤ _; omega, by show ([] : List UInt8).length ≤ _; simp⟩
  unfold colA colZ
  refine ⟨?_, ?_⟩
  · show (List.toArray _).size ≤ _
    rw [List.size_toArray]; exact key.1
  · show (List.toArray _).size ≤ _
    rw [List.size_toArray]; exact key.2
theorem colon_any (s : ByteArray) (w : World) (hs : s.size ≤ 1048576) (hx : Max w) :
    Calls Tryz.prog 70 #[.string s, .string ⟨#[58]⟩] w (Ret w (.tuple #[.string (colA s), .string (colZ s), .bool (Lib.cut s.data.toList [58]).2.2])) := by
  obtain ⟨m, hm⟩ := hx
  exact Calls.mono (show Calls Tryz.prog 70 #[.string s, .string ⟨#[58]⟩] w _ from Any.strings_Cut Tryz.lays145 s ⟨#[58]⟩ m w (by omega) hm) fun e w' ⟨he, n, hw⟩ => .mk he (hw ▸ ⟨rfl, rfl, rfl, by simp, fun i hi => rfl⟩)
set_option maxHeartbeats 4000000 in
theorem readPoint_at {s A B : ByteArray} {F T : Int} {K1 K2 K3 b : Bool} (w : World) (C0 : ∀ w, Max w → Calls Tryz.prog 70 #[.string s, .string ⟨#[58]⟩] w (Ret w (.tuple #[.string A, .string B, .bool b])))
    (CA : ∀ w, Env w → Calls Tryz.prog 30 #[.string A] w (Ret w (.tuple #[.int .i64 F, .bool K1]))) (CB : ∀ w, Env w → Calls Tryz.prog 30 #[.string B] w (Ret w (.tuple #[.int .i64 T, .bool K2])))
    (CI : ∀ w, Calls Tryz.prog 55 #[.agg #[.int .i64 F, .int .i64 T]] w (Ret w (.bool K3))) (hE : Env w) :
    Calls Tryz.prog 48 #[.string s] w (Ret w (.tuple #[.agg #[.int .i64 F, .int .i64 T], .bool (K1 && K2 && K3)])) := by
  replace C0 := Lib.hid C0
  replace CA := Lib.hid CA
  replace CB := Lib.hid CB
  replace CI := Lib.hid CI
  replace hE := Lib.hid hE
  cases K1
  · go_enter Tryz.func48, Tryz.ntmps48
    go_wp2_with fail
    with_reducible refine (C0.out _ (hE.out.mx.bel (by (repeat (first | (with_reducible exact Below.refl _ _) | (with_reducible assumption) | (with_reducible refine Later.out _ ?_) | (with_reducible refine bel_alloc ?_ _) | (with_reducible refine bel_drew ?_) | (with_reducible refine bel_drewN ?_ _) | (with_reducible refine bel_set ?_ ?_ _) | (with_reducible refine After.out _ ?_ ?_) | (dsimp only; omega) | omega | (simp only [World.size_alloc, World.size_setCell, World.size_drew]; omega)))))).mono ?_
    rintro e w' ⟨rfl, y1, rfl⟩
    have hsy1 := y1.bel.size
    (try simp only [World.size_alloc, World.size_setCell, World.size_drew] at hsy1)
    go_wp2_with fail
    with_reducible refine (CA.out _ (hE.out.bel (by (repeat (first | (with_reducible exact Below.refl _ _) | (with_reducible assumption) | (with_reducible refine Later.out _ ?_) | (with_reducible refine bel_alloc ?_ _) | (with_reducible refine bel_drew ?_) | (with_reducible refine bel_drewN ?_ _) | (with_reducible refine bel_set ?_ ?_ _) | (with_reducible refine After.out _ ?_ ?_) | (dsimp only; omega) | omega | (simp only [World.size_alloc, World.size_setCell, World.size_drew]; omega)))))).mono ?_
    rintro e w' ⟨rfl, y2, rfl⟩
    have hsy2 := y2.bel.size
    (try simp only [World.size_alloc, World.size_setCell, World.size_drew] at hsy2)
    go_wp2_with fail
    with_reducible refine (CB.out _ (hE.out.bel (by (repeat (first | (with_reducible exact Below.refl _ _) | (with_reducible assumption) | (with_reducible refine Later.out _ ?_) | (with_reducible refine bel_alloc ?_ _) | (with_reducible refine bel_drew ?_) | (with_reducible refine bel_drewN ?_ _) | (with_reducible refine bel_set ?_ ?_ _) | (with_reducible refine After.out _ ?_ ?_) | (dsimp only; omega) | omega | (simp only [World.size_alloc, World.size_setCell, World.size_drew]; omega)))))).mono ?_
    rintro e w' ⟨rfl, y3, rfl⟩
    have hsy3 := y3.bel.size
    (try simp only [World.size_alloc, World.size_setCell, World.size_drew] at hsy3)
    go_wp2_with fail
    first | (go_region_with (go_at_call 55; (with_reducible refine (CI.out _).mono ?_); rintro e w' ⟨rfl, y4, rfl⟩; have hs4 := y4.bel.size; (try simp only [World.size_alloc, World.size_setCell, World.size_drew] at hs4))) | fail
    all_goals
      go_wp2_with fail
      refine bodyPost_ret (by simp [results, Tryz.results48, go_sem, ↓IntWalk.iteOmega]; try rfl) rfl ?_
      exact .mk rfl (by (repeat (first | (with_reducible exact Below.refl _ _) | (with_reducible assumption) | (with_reducible refine Later.out _ ?_) | (with_reducible refine bel_alloc ?_ _) | (with_reducible refine bel_drew ?_) | (with_reducible refine bel_drewN ?_ _) | (with_reducible refine bel_set ?_ ?_ _) | (with_reducible refine After.out _ ?_ ?_) | (dsimp only; omega) | omega | (simp only [World.size_alloc, World.size_setCell, World.size_drew]; omega))))
  cases K2
  · go_enter Tryz.func48, Tryz.ntmps48
    go_wp2_with fail
    with_reducible refine (C0.out _ (hE.out.mx.bel (by (repeat (first | (with_reducible exact Below.refl _ _) | (with_reducible assumption) | (with_reducible refine Later.out _ ?_) | (with_reducible refine bel_alloc ?_ _) | (with_reducible refine bel_drew ?_) | (with_reducible refine bel_drewN ?_ _) | (with_reducible refine bel_set ?_ ?_ _) | (with_reducible refine After.out _ ?_ ?_) | (dsimp only; omega) | omega | (simp only [World.size_alloc, World.size_setCell, World.size_drew]; omega)))))).mono ?_
    rintro e w' ⟨rfl, y1, rfl⟩
    have hsy1 := y1.bel.size
    (try simp only [World.size_alloc, World.size_setCell, World.size_drew] at hsy1)
    go_wp2_with fail
    with_reducible refine (CA.out _ (hE.out.bel (by (repeat (first | (with_reducible exact Below.refl _ _) | (with_reducible assumption) | (with_reducible refine Later.out _ ?_) | (with_reducible refine bel_alloc ?_ _) | (with_reducible refine bel_drew ?_) | (with_reducible refine bel_drewN ?_ _) | (with_reducible refine bel_set ?_ ?_ _) | (with_reducible refine After.out _ ?_ ?_) | (dsimp only; omega) | omega | (simp only [World.size_alloc, World.size_setCell, World.size_drew]; omega)))))).mono ?_
    rintro e w' ⟨rfl, y2, rfl⟩
    have hsy2 := y2.bel.size
    (try simp only [World.size_alloc, World.size_setCell, World.size_drew] at hsy2)
    go_wp2_with fail
    with_reducible refine (CB.out _ (hE.out.bel (by (repeat (first | (with_reducible exact Below.refl _ _) | (with_reducible assumption) | (with_reducible refine Later.out _ ?_) | (with_reducible refine bel_alloc ?_ _) | (with_reducible refine bel_drew ?_) | (with_reducible refine bel_drewN ?_ _) | (with_reducible refine bel_set ?_ ?_ _) | (with_reducible refine After.out _ ?_ ?_) | (dsimp only; omega) | omega | (simp only [World.size_alloc, World.size_setCell, World.size_drew]; omega)))))).mono ?_
    rintro e w' ⟨rfl, y3, rfl⟩
    have hsy3 := y3.bel.size
    (try simp only [World.size_alloc, World.size_setCell, World.size_drew] at hsy3)
    go_wp2_with fail
    first | (go_region_with (go_at_call 55; (with_reducible refine (CI.out _).mono ?_); rintro e w' ⟨rfl, y4, rfl⟩; have hs4 := y4.bel.size; (try simp only [World.size_alloc, World.size_setCell, World.size_drew] at hs4))) | fail
    all_goals
      go_wp2_with fail
      refine bodyPost_ret (by simp [results, Tryz.results48, go_sem, ↓IntWalk.iteOmega]; try rfl) rfl ?_
      exact .mk rfl (by (repeat (first | (with_reducible exact Below.refl _ _) | (with_reducible assumption) | (with_reducible refine Later.out _ ?_) | (with_reducible refine bel_alloc ?_ _) | (with_reducible refine bel_drew ?_) | (with_reducible refine bel_drewN ?_ _) | (with_reducible refine bel_set ?_ ?_ _) | (with_reducible refine After.out _ ?_ ?_) | (dsimp only; omega) | omega | (simp only [World.size_alloc, World.size_setCell, World.size_drew]; omega))))
  · go_enter Tryz.func48, Tryz.ntmps48
    go_wp2_with fail
    with_reducible refine (C0.out _ (hE.out.mx.bel (by (repeat (first | (with_reducible exact Below.refl _ _) | (with_reducible assumption) | (with_reducible refine Later.out _ ?_) | (with_reducible refine bel_alloc ?_ _) | (with_reducible refine bel_drew ?_) | (with_reducible refine bel_drewN ?_ _) | (with_reducible refine bel_set ?_ ?_ _) | (with_reducible refine After.out _ ?_ ?_) | (dsimp only; omega) | omega | (simp only [World.size_alloc, World.size_setCell, World.size_drew]; omega)))))).mono ?_
    rintro e w' ⟨rfl, y1, rfl⟩
    have hsy1 := y1.bel.size
    (try simp only [World.size_alloc, World.size_setCell, World.size_drew] at hsy1)
    go_wp2_with fail
    with_reducible refine (CA.out _ (hE.out.bel (by (repeat (first | (with_reducible exact Below.refl _ _) | (with_reducible assumption) | (with_reducible refine Later.out _ ?_) | (with_reducible refine bel_alloc ?_ _) | (with_reducible refine bel_drew ?_) | (with_reducible refine bel_drewN ?_ _) | (with_reducible refine bel_set ?_ ?_ _) | (with_reducible refine After.out _ ?_ ?_) | (dsimp only; omega) | omega | (simp only [World.size_alloc, World.size_setCell, World.size_drew]; omega)))))).mono ?_
    rintro e w' ⟨rfl, y2, rfl⟩
    have hsy2 := y2.bel.size
    (try simp only [World.size_alloc, World.size_setCell, World.size_drew] at hsy2)
    go_wp2_with fail
    with_reducible refine (CB.out _ (hE.out.bel (by (repeat (first | (with_reducible exact Below.refl _ _) | (with_reducible assumption) | (with_reducible refine Later.out _ ?_) | (with_reducible refine bel_alloc ?_ _) | (with_reducible refine bel_drew ?_) | (with_reducible refine bel_drewN ?_ _) | (with_reducible refine bel_set ?_ ?_ _) | (with_reducible refine After.out _ ?_ ?_) | (dsimp only; omega) | omega | (simp only [World.size_alloc, World.size_setCell, World.size_drew]; omega)))))).mono ?_
    rintro e w' ⟨rfl, y3, rfl⟩
    have hsy3 := y3.bel.size
    (try simp only [World.size_alloc, World.size_setCell, World.size_drew] at hsy3)
    go_wp2_with fail
    first | (go_region_with (go_at_call 55; (with_reducible refine (CI.out _).mono ?_); rintro e w' ⟨rfl, y4, rfl⟩; have hs4 := y4.bel.size; (try simp only [World.size_alloc, World.size_setCell, World.size_drew] at hs4))) | fail
    all_goals
      go_wp2_with fail
      refine bodyPost_ret (by simp [results, Tryz.results48, go_sem, ↓IntWalk.iteOmega]; try rfl) rfl ?_
      exact .mk rfl (by (repeat (first | (with_reducible exact Below.refl _ _) | (with_reducible assumption) | (with_reducible refine Later.out _ ?_) | (with_reducible refine bel_alloc ?_ _) | (with_reducible refine bel_drew ?_) | (with_reducible refine bel_drewN ?_ _) | (with_reducible refine bel_set ?_ ?_ _) | (with_reducible refine After.out _ ?_ ?_) | (dsimp only; omega) | omega | (simp only [World.size_alloc, World.size_setCell, World.size_drew]; omega))))
theorem readPoint_any (s : ByteArray) (w : World) (hs : s.size ≤ 1048576) (hE : Env w) :
    Calls Tryz.prog 48 #[.string s] w (Ret w (.tuple #[.agg #[.int .i64 (numV (colA s)), .int .i64 (numV (colZ s))], .bool (ptI s)])) :=
  have hc := col_sizes s
  readPoint_at w (fun w hx => colon_any s w hs hx) (fun w hE => readNumber_any _ w (by omega) hE) (fun w hE => readNumber_any _ w (by omega) hE) (fun w => isPoint_any _ _ w) hE
theorem trim_marks (l : List UInt8) : (Lib.trimS l [35, 46]).isEmpty = l.all hashB := by
  rw [Bool.eq_iff_iff, List.isEmpty_iff, trimS_nil, List.all_eq_true]
  have e : ∀ x : UInt8, ([35, 46] : List UInt8).contains x = hashB x := fun x => by unfold hashB; simp only [List.contains_cons, List.contains_nil, Bool.or_false]
  constructor
  · intro h x hx
    rw [← e]; exact h x hx
  · intro h x hx
    rw [e]; exact h x hx
theorem trimM_any (s : ByteArray) (w : World) (hs : s.size ≤ 1048576) :
    ∃ t : ByteArray, t.toList.isEmpty = s.data.toList.all hashB ∧ ∀ w, Calls Tryz.prog 51 #[.string s, .string ⟨#[35, 46]⟩] w (Ret w (.string t)) := by
  refine ⟨bytesOf (Lib.trimS s.data.toList [35, 46]), by rw [isEmpty_bytesOf, trim_marks], fun w => ?_⟩
  refine (Any.strings_Trim_laid Tryz.lays160 (by kernel_rfl) s ⟨#[35, 46]⟩ w (by omega) (by decide) (ascii_of_all (by decide))).mono ?_
  rintro e w' ⟨rfl, hb⟩
  exact .mk rfl hb
/-- slices.Reverse of texts: behind it the row is turned, all other blocks are as they were. -/
theorem rev_any (R : List ByteArray) (g o c : Nat) (w : World) (hm : R.length ≤ 1048576) (hq : ∀ (j : Nat) (h : j < R.length), w.cell? ⟨g, o + j, none⟩ = some (.string R[j])) (hf : ∀ j, j < R.length → w.frozen? ⟨g, o + j, none⟩ = false) (hg : g < w.heap.size) :
    Calls Tryz.prog 49 #[.slice (some ⟨g, o, none⟩) R.length c] w (fun e w' => e = .returned (.tuple #[]) ∧ ∃ z : After w g (g + 1), w' = z.w ∧ ∀ (j : Nat) (h : j < R.reverse.length), z.w.cell? ⟨g, o + j, none⟩ = some (.string R.reverse[j])) := by
  have hH : Go.Sort.Holds Value.string w g o R.toArray := fun j hj => by
    have hj' : j < R.length := by simpa using hj
    refine ⟨?_, hf j hj'⟩
    rw [hq j hj']
    simp [hj']
  have h := AnyE.slices_Reverse Tryz.lcr Value.string (fun _ => rfl) g o c R w hH (by omega)
  refine Calls.mono (show Calls Tryz.prog 49 _ w _ from h) ?_
  rintro e w' ⟨he, n, rfl⟩
  have hH2 : Go.Sort.Holds Value.string (Go.Sort.ahead w n) g o R.toArray := hH
  have hh := Go.Sort.holds_putRow Value.string (Go.Sort.ahead w n) g o R.toArray R.reverse.toArray hH2 (by simp)
  have hb : Between g (g + 1) w (Go.Sort.putRow Value.string (Go.Sort.ahead w n) g o R.reverse.toArray) := by
    refine ⟨rfl, rfl, rfl, by simp [Go.Sort.putRow, Go.Sort.mapBlock, Go.Sort.ahead], fun k hk hne => ?_⟩
    have : g ≠ k := by omega
    simp [Go.Sort.putRow, Go.Sort.mapBlock, Go.Sort.ahead, Array.getElem?_modify, this]
  generalize Go.Sort.putRow Value.string (Go.Sort.ahead w n) g o R.reverse.toArray = w2 at hb hh ⊢
  refine ⟨he, ⟨w2, hb⟩, rfl, fun j hj => ?_⟩
  have h3 := (hh j (by simpa using hj)).1
  rw [h3]
  simp only [Option.some.injEq, Value.string.injEq]
  rw [getElem!_pos R.reverse.toArray j (by simpa using hj)]
  simp
end Go.Proofs.YtfjlilpebhiogaaGreatDoor

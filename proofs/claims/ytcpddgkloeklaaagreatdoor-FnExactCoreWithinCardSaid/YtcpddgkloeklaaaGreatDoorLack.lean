import Derived.Test.YtcpddgkloeklaaaGreatDoorKept
import Derived.Test.YtcpddgkloeklaaaGreatDoorNest
import Derived.Test.YtcpddgkloeklaaaGreatDoorOper
import Derived.Lib.AppendZerosOnto
/- A list without one of its elements: both sides; slices.Grow and slices.Concat of numbers. -/
set_option linter.unusedSimpArgs false
set_option linter.unusedVariables false
namespace Go.Proofs.YtcpddgkloeklaaaGreatDoor
open Go.RowKit
theorem own_cut {w : World} {base n cap : Nat} {e : TypeId} {cs : Array Value} (hb : base ≤ w.heap.size) (hn : n ≤ cap) (hc : cap ≤ maxLen) (hs : cs.size = cap) :
    (w.alloc (.cells cs e)).ownsRow base e 1 (.slice (some ⟨w.heap.size, 0, none⟩) n cap) n (cs.toList.take n) :=
  ⟨by simp [hs]; omega, .inr ⟨w.heap.size, cap, cs, rfl, hb, heap_alloc_new w _, hn, hc, by omega, by simp⟩⟩
set_option maxRecDepth 8000 in
set_option maxHeartbeats 2000000 in
theorem growNil_any (n : Nat) (w : World) (hn : n ≤ 1048576) : Calls Tryz.prog 138 #[.slice none 0 0, .int .i64 n] w (RetOwn w 2 1 0 [] id) := by
  rcases Nat.eq_zero_or_pos n with rfl | h0
  · go_enter Tryz.func138, Tryz.ntmps138
    go_wp2_with fail
    go_ret
    exact RetOwn.mk (.slice none 0 0) rfl (World.ownsRow_nil _ _ _ _) (by (repeat (first | (with_reducible exact Below.refl _ _) | (with_reducible assumption) | (with_reducible refine Later.out _ ?_) | (with_reducible refine bel_alloc ?_ _) | (with_reducible refine bel_drew ?_) | (with_reducible refine bel_drewN ?_ _) | (with_reducible refine bel_set ?_ ?_ _) | (with_reducible refine After.out _ ?_ ?_) | (dsimp only; omega) | omega | (simp only [World.size_alloc, World.size_setCell, World.size_drew]; omega))))
  · obtain ⟨i, j1, j2, j3, j4⟩ := info_i64'
    have hrz : ∀ (w : World) ty, (Builtin.append_ #[23, 3] ty #[.slice none 0 0, .int .i64 n]).run Tryz.prog w = .ok (.slice (some ⟨w.heap.size, 0, none⟩) n (grownCap w n 0 2)) (w.drew.alloc (.cells (#[] ++ Builtin.zeroCells (Value.int .i64 0).cells n ++ Builtin.zeroCells (Value.int .i64 0).cells (grownCap w n 0 2 - n)) 2)) := fun w ty => by
      have h := Lib.run_append_grow_zeros w 23 3 ty 2 i _ .i64 .i64 Tryz.underlying23 Tryz.underlying3 j1 j2 none 0 0 [] (run_firstCells_none w.drew i.size 0 0 0) n h0 (by omega) (by omega) (by omega) (by rw [j4]; omega) (growslice_fits (by omega) (by rw [j4]; omega))
      simp only [Nat.zero_add] at h
      exact h
    have hG : ∀ w : World, n ≤ grownCap w n 0 2 ∧ grownCap w n 0 2 ≤ maxLen := fun w => ⟨grownCap_ge w _ _ _, grownCap_le_maxLen w _ _ _ (by unfold maxLen; omega)⟩
    have hn1 : (0 : Int) < n := by omega
    replace hG := Lib.hid hG
    clear j1 j2 j3 j4
    go_enter Tryz.func138, Tryz.ntmps138
    go_wp2_with (at_builtin; refine Lib.wpList_append_run _ rfl _ _ _ _ rfl _ _ rfl rfl _ _ (hrz _ _) ?_)
    have h1 := (hG.out w).1
    have h2 := (hG.out w).2
    have HO := Lib.hid (own_cut (w := w) (base := w.heap.size) (n := 0) (cap := grownCap w n 0 2) (e := 2) (cs := Builtin.zeroCells #[.int .i64 0] n ++ Builtin.zeroCells #[.int .i64 0] (grownCap w n 0 2 - n)) (Nat.le_refl _) (Nat.zero_le _) h2 (by simp only [Array.size_append, size_zeroCells]; simp; omega))
    clear h1 h2
    go_ret
    refine RetOwn.mk _ rfl ?_ ?_
    · exact own_bel HO.out (by (repeat (first | (with_reducible exact Below.refl _ _) | (with_reducible assumption) | (with_reducible refine Later.out _ ?_) | (with_reducible refine bel_alloc ?_ _) | (with_reducible refine bel_drew ?_) | (with_reducible refine bel_drewN ?_ _) | (with_reducible refine bel_set ?_ ?_ _) | (with_reducible refine After.out _ ?_ ?_) | (dsimp only; omega) | omega | (simp only [World.size_alloc, World.size_setCell, World.size_drew]; omega))))
    · (repeat (first | (with_reducible exact Below.refl _ _) | (with_reducible assumption) | (with_reducible refine Later.out _ ?_) | (with_reducible refine bel_alloc ?_ _) | (with_reducible refine bel_drew ?_) | (with_reducible refine bel_drewN ?_ _) | (with_reducible refine bel_set ?_ ?_ _) | (with_reducible refine After.out _ ?_ ?_) | (dsimp only; omega) | omega | (simp only [World.size_alloc, World.size_setCell, World.size_drew]; omega)))
/-- The first `k` lists, one behind the other. -/
def flatS (S : List (List Int)) (k : Nat) : List Int := (S.take k).flatten
theorem flatS_zero (S : List (List Int)) : flatS S 0 = [] := rfl
theorem flatS_succ {S : List (List Int)} {k : Nat} (h : k < S.length) : flatS S (k + 1) = flatS S k ++ S[k] := by
  unfold flatS
  rw [List.take_succ_eq_append_getElem h, List.flatten_append]
  simp
theorem length_flatS (S : List (List Int)) : ∀ k, k ≤ S.length → (flatS S k).length = offS S k
  | 0, _ => rfl
  | k + 1, h => by rw [flatS_succ (by omega), List.length_append, length_flatS S k (by omega), offS_succ (by omega)]
theorem intCells_append (l m : List Int) : intCells (l ++ m) = intCells l ++ intCells m := by simp [intCells]
theorem one_ints (l : List Int) : ∀ u ∈ intCells l, u.oneCell' = true := by
  intro u hu
  simp only [intCells, List.mem_map] at hu
  obtain ⟨b, _, rfl⟩ := hu
  rfl
set_option maxRecDepth 8000 in
set_option maxHeartbeats 2000000 in
theorem concat_any (S : List (List Int)) (a : Option Addr) (n c M : Nat) (w : World) (hn : S.length = n) (hm : n ≤ 1000) (hM : ∀ l ∈ S, l.length ≤ M) (hM' : M ≤ 1000) (hr : Rows2 w a S) :
    Calls Tryz.prog 103 #[.slice a n c] w (RetOwn w 2 1 (flatS S n).length (intCells (flatS S n)) id) := by
  obtain ⟨ii, j1, j2, j3, j4⟩ := info_i64'
  have Jii := Lib.hid (And.intro j1 (And.intro j2 (And.intro j3 j4)))
  clear j1 j2 j3 j4
  subst hn
  have hoff := Lib.hid (offS_le hM)
  have hlen := Lib.hid (length_flatS S)
  replace hM := Lib.hid hM
  replace hr := Lib.hid hr
  go_enter Tryz.func103, Tryz.ntmps103
  go_wp2_with fail
  go_loopw [3, 11] (fun s i wr => ∃ k : Nat, k ≤ S.length ∧ i = .int .i64 k ∧ s = .int .i64 (offS S k : Nat) ∧ ∃ z : Later w, wr = z.w) (fun _ i _ => S.length - (intOf i).toNat)
  case atStart => exact ⟨0, Nat.zero_le _, rfl, rfl, ⟨_, Below.refl _ _⟩, rfl⟩
  case round =>
    obtain ⟨k, hk, rfl, rfl, z, rfl⟩ := hrel
    have hzz := z.bel.size
    have hof := hoff.out k
    have hof2 : k * M ≤ 1000 * 1000 := Nat.mul_le_mul (by omega) hM'
    by_cases hlt : k < S.length
    · obtain ⟨b, o, ai, ci, rfl, hb, hc, hrow⟩ := hr.out.at_ hlt
      have hi1 : (k : Int) < (S.length : Int) := by omega
      have hl1 := hM.out _ (List.getElem_mem hlt)
      have X := Lib.hid (offS_succ hlt)
      have hpos : ¬ ((offS S k : Int) + (S[k].length : Int) < 0) := by omega
      clear hrow
      go_wp2_with fail
      go_roundw
      case rel => exact ⟨k + 1, by omega, by go_num, by rw [X.out]; go_num, LaterC.mk (by (repeat (first | (with_reducible exact Below.refl _ _) | (with_reducible assumption) | (with_reducible refine Later.out _ ?_) | (with_reducible refine bel_alloc ?_ _) | (with_reducible refine bel_drew ?_) | (with_reducible refine bel_drewN ?_ _) | (with_reducible refine bel_set ?_ ?_ _) | (with_reducible refine After.out _ ?_ ?_) | (dsimp only; omega) | omega | (simp only [World.size_alloc, World.size_setCell, World.size_drew]; omega))))⟩
      case measure => first | (simp [intOf]; done) | (simp [intOf]; omega) | omega
    · obtain rfl : k = S.length := by omega
      have hG := fun w => growNil_any (offS S S.length) w (by omega)
      replace hG := Lib.hid hG
      go_wp2_with fail
      with_reducible refine (hG.out _).mono ?_
      rintro e w' ⟨a6, c6, rfl, hown, y1, rfl⟩
      have hsy1 := y1.bel.size
      (try simp only [World.size_alloc, World.size_setCell, World.size_drew] at hsy1)
      have H6 := Lib.hid (Owns.of hown)
      clear hown
      go_wp2_with fail
      go_loopw [6, 27] (fun t6 i wr => ∃ (k : Nat) (a6 : Option Addr) (c6 : Nat), k ≤ S.length ∧ i = .int .i64 k ∧ t6 = .slice a6 (offS S k) c6 ∧ wr.ownsRow w.heap.size 2 1 (.slice a6 (offS S k) c6) (offS S k) (intCells (flatS S k)) ∧ ∃ z : Later w, wr = z.w) (fun _ i _ => S.length - (intOf i).toNat)
      case atStart => exact ⟨0, a6, c6, Nat.zero_le _, rfl, rfl, own_mono (own_bel H6.out.own (by (repeat (first | (with_reducible exact Below.refl _ _) | (with_reducible assumption) | (with_reducible refine Later.out _ ?_) | (with_reducible refine bel_alloc ?_ _) | (with_reducible refine bel_drew ?_) | (with_reducible refine bel_drewN ?_ _) | (with_reducible refine bel_set ?_ ?_ _) | (with_reducible refine After.out _ ?_ ?_) | (dsimp only; omega) | omega | (simp only [World.size_alloc, World.size_setCell, World.size_drew]; omega))))) (by ((try simp only [World.size_alloc, World.size_setCell, World.size_drew]); omega)), LaterC.mk (by (repeat (first | (with_reducible exact Below.refl _ _) | (with_reducible assumption) | (with_reducible refine Later.out _ ?_) | (with_reducible refine bel_alloc ?_ _) | (with_reducible refine bel_drew ?_) | (with_reducible refine bel_drewN ?_ _) | (with_reducible refine bel_set ?_ ?_ _) | (with_reducible refine After.out _ ?_ ?_) | (dsimp only; omega) | omega | (simp only [World.size_alloc, World.size_setCell, World.size_drew]; omega))))⟩
      case round =>
        obtain ⟨k, a6, c6, hk, rfl, rfl, hown, z2, rfl⟩ := hrel
        have hz2 := z2.bel.size
        have hlk := hlen.out k hk
        have hof := hoff.out k
        have hof2 : k * M ≤ 1000 * 1000 := Nat.mul_le_mul (by omega) hM'
        replace hown := Lib.hid hown
        by_cases hlt : k < S.length
        · obtain ⟨b, o, ai, ci, rfl, hb, hc, hrow⟩ := hr.out.at_ hlt
          have hi1 : (k : Int) < (S.length : Int) := by omega
          have hl1 := hM.out _ (List.getElem_mem hlt)
          have X := Lib.hid (offS_succ hlt)
          have Y := Lib.hid (flatS_succ hlt)
          have hli := length_intCells S[k]
          replace hrow := Lib.hid hrow
          go_wp2_with (at_builtin; (refine wpList_append_later _ rfl _ _ _ rfl 2 ii _ 1 8 Tryz.underlying23 Jii.out.1 Jii.out.2.1 Jii.out.2.2.1 Jii.out.2.2.2 rfl (by decide) (w) ?qa1 _ _ _ (intCells (flatS S k)) rfl ?qa2 _ _ _ (intCells S[k]) rfl ?qa3 ?qa4 ?qa5 ?qa6 ?qa7 ?_); (case qa1 => (repeat (first | (with_reducible exact Below.refl _ _) | (with_reducible assumption) | (with_reducible refine Later.out _ ?_) | (with_reducible refine bel_alloc ?_ _) | (with_reducible refine bel_drew ?_) | (with_reducible refine bel_drewN ?_ _) | (with_reducible refine bel_set ?_ ?_ _) | (with_reducible refine After.out _ ?_ ?_) | (dsimp only; omega) | omega | (simp only [World.size_alloc, World.size_setCell, World.size_drew]; omega)))); (case qa2 => exact hown.out); (case qa3 => (first | rfl | (simp [boolCells]; done) | (simp [intCells]; done) | (simp; done) | (first | omega | (simp only [List.length_append, List.length_cons, List.length_nil]; omega)))); (case qa4 => exact hrow.out.bel (by (repeat (first | (with_reducible exact Below.refl _ _) | (with_reducible assumption) | (with_reducible refine Later.out _ ?_) | (with_reducible refine bel_alloc ?_ _) | (with_reducible refine bel_drew ?_) | (with_reducible refine bel_drewN ?_ _) | (with_reducible refine bel_set ?_ ?_ _) | (with_reducible refine After.out _ ?_ ?_) | (dsimp only; omega) | omega | (simp only [World.size_alloc, World.size_setCell, World.size_drew]; omega))))); (case qa5 => exact one_ints _); (case qa6 => (unfold maxLen; (first | omega | (simp only [List.length_append, List.length_cons, List.length_nil]; omega)))); (case qa7 => (first | omega | (simp only [List.length_append, List.length_cons, List.length_nil]; omega))); intro a9 c9 x9 hown9)
          replace hown9 := Lib.hid hown9
          go_roundw
          case rel => exact ⟨k + 1, a9, c9, by omega, by go_num, by rw [X.out], by rw [X.out, Y.out, intCells_append]; exact hown9.out, x9, rfl⟩
          case measure => first | (simp [intOf]; done) | (simp [intOf]; omega) | omega
        · obtain rfl : k = S.length := by omega
          go_wp2_with fail
          go_ret
          refine RetOwn.mk _ rfl ?_ z2.bel
          rw [hlk]
          exact hown.out
end Go.Proofs.YtcpddgkloeklaaaGreatDoor

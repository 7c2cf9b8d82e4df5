import Derived.Test.YtflcfdiochohgaaGreatDoorPackAb
/- Comparisons and sums in the laws that draw: lists of numbers. -/
set_option linter.unusedSimpArgs false
set_option linter.unusedVariables false
namespace Go.Proofs.YtflcfdiochohgaaGreatDoor
open Go.RowKit
set_option maxHeartbeats 400000 in
theorem likeInts_any (l l' : List Int) (a a' : Option Addr) (n c n' c' : Nat) (w : World) (hn : l.length = n) (hn' : l'.length = n') (hm : n ≤ 1048576) (hm' : n' ≤ 1048576) (hr : Row w a (intCells l)) (hr' : Row w a' (intCells l')) :
    Calls Tryz.prog 25 #[.slice a n c, .slice a' n' c'] w (Ret w (.bool (l == l'))) := by
  subst hn hn'
  by_cases hl : l.length = l'.length
  · have hr := Lib.hid hr
    have hr' := Lib.hid hr'
    have e1 : ((l.length : Int) != (l'.length : Int)) = false := by simp [hl]
    have HL := Lib.hid hl
    clear hl
    go_enter Tryz.func25, Tryz.ntmps25
    go_wp2
    go_loopw [5] (fun i wr => ∃ k : Nat, k ≤ l.length ∧ i = .int .i64 k ∧ (∀ j (h1 : j < l.length) (h2 : j < l'.length), j < k → l[j] = l'[j]) ∧ Below w.heap.size w wr) (fun i _ => l.length - (intOf i).toNat)
    case atStart => exact ⟨0, Nat.zero_le _, rfl, fun j _ _ h => absurd h (by omega), Below.refl _ _⟩
    case round =>
      obtain ⟨k, hk, rfl, hsame, hb⟩ := hrel
      by_cases hlt : k < l.length
      · have hlt' : k < l'.length := by have := HL.out; omega
        obtain ⟨b, o, rfl, hc⟩ := (hr.out.bel hb) k _ (intCells_get hlt)
        obtain ⟨b', o', rfl, hc'⟩ := (hr'.out.bel hb) k _ (intCells_get hlt')
        have hi1 : (k : Int) < (l.length : Int) := by omega
        have hi2 : (k : Int) < (l'.length : Int) := by omega
        have HS := Lib.hid hsame
        have HB := Lib.hid hb
        clear hsame hb
        by_cases hd : l[k] = l'[k]
        · have hd' : (l[k] != l'[k]) = false := by simp [hd]
          have HD := Lib.hid hd
          clear hd
          go_wp2
          go_quiet (fail)
          go_wp2
          go_roundw
          case rel => exact ⟨k + 1, by omega, by go_num, fun j h1 h2 hj => by
            rcases Nat.lt_or_ge j k with h | h
            · exact HS.out j h1 h2 h
            · obtain rfl : j = k := by omega
              exact HD.out, bel_drewN HB.out _⟩
          case measure => simp [intOf]; omega
        · have hd' : (l[k] != l'[k]) = true := by simpa using hd
          have X := Lib.hid (beq_of_diff hlt hlt' hd)
          clear hd
          go_wp2
          go_quiet (fail)
          go_wp2
          go_ret
          exact .mk (by rw [X.out]; rfl) (bel_drewN HB.out _)
      · obtain rfl : k = l.length := by omega
        have X := Lib.hid (beq_of_all HL.out fun j h1 h2 => hsame j h1 h2 h1)
        have HB := Lib.hid hb
        clear hsame hb
        go_wp2
        go_ret
        exact .mk (by rw [X.out]; rfl) HB.out
  · have e1 : ((l.length : Int) != (l'.length : Int)) = true := by simp; omega
    have X := Lib.hid (beq_of_len hl)
    clear hl
    go_enter Tryz.func25, Tryz.ntmps25
    go_wp2
    go_ret
    exact .mk (by rw [X.out]; rfl) (Below.refl _ _)
theorem likeInts_same {l : List Int} {a a' : Option Addr} {n c n' c' : Nat} {w : World} (hn : l.length = n) (hn' : l.length = n') (hm : n ≤ 1048576) (hm' : n' ≤ 1048576) (hr : Row w a (intCells l)) (hr' : Row w a' (intCells l)) :
    Calls Tryz.prog 25 #[.slice a n c, .slice a' n' c'] w (Ret w (.bool true)) := by
  have h := likeInts_any l l a a' n c n' c' w hn hn' hm hm' hr hr'
  rw [beq_self_eq_true] at h
  exact h
theorem big_no (a : Option Addr) (n c : Nat) (w : World) (hn : n ≤ 4096) : Calls Tryz.prog 9 #[.slice a n c] w (Ret w (.bool false)) := by
  have h : ¬ (n : Int) > 4096 := by omega
  go_enter Tryz.func9, Tryz.ntmps9
  go_wp2
  go_ret
  exact .mk (by simp [*]) (Below.refl _ _)
theorem big_yes (a : Option Addr) (n c : Nat) (w : World) (hn : 4096 < n) (hm : n ≤ maxLen) : Calls Tryz.prog 9 #[.slice a n c] w (Ret w (.bool true)) := by
  unfold maxLen at hm
  have h : (n : Int) > 4096 := by omega
  go_enter Tryz.func9, Tryz.ntmps9
  go_wp2
  go_ret
  exact .mk (by simp [*]) (Below.refl _ _)
/-- The sum of a list's first k numbers. -/
def sumTo (l : List Int) (k : Nat) : Int := (l.take k).sum
theorem sumTo_step {l : List Int} {k : Nat} (h : k < l.length) : sumTo l (k + 1) = sumTo l k + l[k] := by
  unfold sumTo
  rw [List.take_succ_eq_append_getElem h, List.sum_append]
  simp
theorem sumTo_bd {l : List Int} {M : Int} (hb : ∀ x ∈ l, 0 ≤ x ∧ x ≤ M) : ∀ k, k ≤ l.length → 0 ≤ sumTo l k ∧ sumTo l k ≤ k * M
  | 0, _ => by simp [sumTo]
  | k + 1, h => by
    have h1 := sumTo_bd hb k (by omega)
    have h2 := hb l[k] (List.getElem_mem (by omega))
    rw [sumTo_step (by omega)]
    have : ((k + 1 : Nat) : Int) * M = k * M + M := by rw [Int.natCast_succ, Int.add_mul, Int.one_mul]
    omega
set_option maxHeartbeats 400000 in
theorem sum_any (l : List Int) (a : Option Addr) (n c : Nat) (w : World) (hn : l.length = n) (hm : n ≤ 1048576) (hb : ∀ x ∈ l, 0 ≤ x ∧ x ≤ 1048576) (hr : Row w a (intCells l)) :
    Calls Tryz.prog 64 #[.slice a n c] w (Ret w (.int .i64 l.sum)) := by
  subst hn
  have hr := Lib.hid hr
  have hsum : sumTo l l.length = l.sum := by simp [sumTo]
  replace hsum := Lib.hid hsum
  have hbd := Lib.hid (fun k h => sumTo_bd hb k h)
  have hb1 := Lib.hid hb
  clear hb
  go_enter Tryz.func64, Tryz.ntmps64
  go_wp2_with fail
  go_loopw [3, 4] (fun s i wr => ∃ k : Nat, k ≤ l.length ∧ i = .int .i64 k ∧ s = .int .i64 (sumTo l k) ∧ ∃ z : Later w, wr = z.w) (fun _ i _ => l.length - (intOf i).toNat)
  case atStart => exact ⟨0, Nat.zero_le _, rfl, rfl, ⟨_, Below.refl _ _⟩, rfl⟩
  case round =>
    obtain ⟨k, hk, rfl, rfl, z, rfl⟩ := hrel
    have b1 := hbd.out k hk
    by_cases hlt : k < l.length
    · obtain ⟨b, o, rfl, hc⟩ := (hr.out.bel (w' := z.w) (by (repeat (first | (with_reducible exact Below.refl _ _) | (with_reducible assumption) | (with_reducible refine Later.out _ ?_) | (with_reducible refine bel_alloc ?_ _) | (with_reducible refine bel_drew ?_) | (with_reducible refine bel_drewN ?_ _) | (with_reducible refine bel_set ?_ ?_ _) | (with_reducible refine After.out _ ?_ ?_) | (dsimp only; omega) | omega | (simp only [World.size_alloc, World.size_setCell, World.size_drew]; omega))))) k _ (intCells_get hlt)
      have b2 := hb1.out l[k] (List.getElem_mem hlt)
      have hst := Lib.hid (sumTo_step hlt)
      obtain ⟨B, hB⟩ : ∃ B, l[k] = B := ⟨_, rfl⟩
      rw [hB] at hc b2 hst
      have b3 : (k : Int) * 1048576 ≤ 1048576 * 1048576 := by omega
      have i1 : (k : Int) < (l.length : Int) := by omega
      clear hB
      obtain ⟨T, hT⟩ : ∃ T, sumTo l k = T := ⟨_, rfl⟩
      rw [hT] at b1 hst
      simp only [hT]
      clear hT
      go_wp2_with fail
      go_roundw
      case rel => exact ⟨k + 1, by omega, by go_num, by rw [hst.out], z, rfl⟩
      case measure => first | (simp [intOf]; done) | (simp [intOf]; omega) | omega
    · obtain rfl : k = l.length := by omega
      have i1 : ¬ (l.length : Int) < (l.length : Int) := by omega
      go_wp2_with fail
      go_ret
      refine .mk (by rw [← hsum.out]; rfl) ?_
      (repeat (first | (with_reducible exact Below.refl _ _) | (with_reducible assumption) | (with_reducible refine Later.out _ ?_) | (with_reducible refine bel_alloc ?_ _) | (with_reducible refine bel_drew ?_) | (with_reducible refine bel_drewN ?_ _) | (with_reducible refine bel_set ?_ ?_ _) | (with_reducible refine After.out _ ?_ ?_) | (dsimp only; omega) | omega | (simp only [World.size_alloc, World.size_setCell, World.size_drew]; omega)))
end Go.Proofs.YtflcfdiochohgaaGreatDoor

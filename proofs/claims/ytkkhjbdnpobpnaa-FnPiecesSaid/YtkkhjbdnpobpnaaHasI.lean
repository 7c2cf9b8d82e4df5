import Derived.Test.YtkkhjbdnpobpnaaBase
import Derived.Test.YtkkhjbdnpobpnaaInts
import Derived.Laws.StructEq
/- A number of a list (as in the text LikeC, for seats without claims). -/
set_option linter.unusedSimpArgs false
set_option linter.unusedVariables false
namespace Go.Proofs.Ytkkhjbdnpobpnaa
open Go.RowKit
theorem Row.int {w : World} {a : Option Addr} {l : List Int} (h : Row w a (intCells l)) {k : Nat} (hk : k < l.length) : ∃ b o, a = some ⟨b, o, none⟩ ∧ b < w.heap.size ∧ w.cell? ⟨b, o + k, none⟩ = some (.int .i64 l[k]) := by
  obtain ⟨b, o, rfl, hc⟩ := h k _ (intCells_get hk)
  exact ⟨b, o, rfl, World.block_lt_of_cell? w _ hc, hc⟩
theorem contains_false {S : List Int} {x : Int} (h : ∀ j (hj : j < S.length), S[j] ≠ x) : S.contains x = false := by
  rw [Bool.eq_false_iff]
  intro hc
  rw [List.contains_iff_mem] at hc
  obtain ⟨j, hj, e⟩ := List.mem_iff_getElem.1 hc
  exact h j hj e
theorem contains_true {S : List Int} {x : Int} {j : Nat} (hj : j < S.length) (h : S[j] = x) : S.contains x = true := by
  rw [List.contains_iff_mem]; exact h ▸ List.getElem_mem hj
set_option maxHeartbeats 1000000 in
theorem hasInt_any (x : Int) (S : List Int) (a : Option Addr) (n c : Nat) (w : World) (hn : S.length = n) (hm : n ≤ 1048576) (hr : Row w a (intCells S)) :
    Calls Try.prog 17 #[.slice a n c, .int .i64 x] w (Ret w (.bool (S.contains x))) := by
  subst hn
  replace hr := Lib.hid hr
  go_enter Try.func17, Try.ntmps17
  go_wp2_with fail
  go_loopw [5] (fun i wr => ∃ k : Nat, k ≤ S.length ∧ i = .int .i64 k ∧ (∀ j (hj : j < S.length), j < k → S[j] ≠ x) ∧ ∃ z : Later w, wr = z.w) (fun i _ => S.length - (intOf i).toNat)
  case atStart => exact ⟨0, Nat.zero_le _, rfl, fun j _ h => absurd h (by omega), ⟨_, Below.refl _ _⟩, rfl⟩
  case round =>
    obtain ⟨k, hk, rfl, hall, z, rfl⟩ := hrel
    replace hall := Lib.hid hall
    by_cases hlt : k < S.length
    · obtain ⟨b, o, rfl, hb, hc⟩ := hr.out.int hlt
      have hi1 : (k : Int) < (S.length : Int) := by omega
      by_cases e : S[k] = x
      · have X := Lib.hid (contains_true hlt e)
        have e1 : (S[k] == x) = true := by simp [e]
        clear e
        go_wp2_with fail
        go_ret
        exact .mk (by rw [X.out]; rfl) (by (repeat (first | (with_reducible exact Below.refl _ _) | (with_reducible assumption) | (with_reducible refine Later.out _ ?_) | (with_reducible refine bel_alloc ?_ _) | (with_reducible refine bel_drew ?_) | (with_reducible refine bel_drewN ?_ _) | (with_reducible refine bel_set ?_ ?_ _) | (with_reducible refine After.out _ ?_ ?_) | (dsimp only; omega) | omega | (simp only [World.size_alloc, World.size_setCell, World.size_drew]; omega))))
      · have X := Lib.hid (show ∀ j (hj : j < S.length), j < k + 1 → S[j] ≠ x from fun j hj h => by
          rcases Nat.lt_or_ge j k with h1 | h1
          · exact hall.out j hj h1
          · obtain rfl : j = k := by omega
            exact e)
        have e1 : (S[k] == x) = false := by rw [beq_eq_false_iff_ne]; exact e
        clear e
        go_wp2_with fail
        go_roundw
        case rel => exact ⟨k + 1, by omega, by go_num, X.out, LaterC.mk (by (repeat (first | (with_reducible exact Below.refl _ _) | (with_reducible assumption) | (with_reducible refine Later.out _ ?_) | (with_reducible refine bel_alloc ?_ _) | (with_reducible refine bel_drew ?_) | (with_reducible refine bel_drewN ?_ _) | (with_reducible refine bel_set ?_ ?_ _) | (with_reducible refine After.out _ ?_ ?_) | (dsimp only; omega) | omega | (simp only [World.size_alloc, World.size_setCell, World.size_drew]; omega))))⟩
        case measure => first | (simp [intOf]; done) | (simp [intOf]; omega) | omega
    · obtain rfl : k = S.length := by omega
      have X := Lib.hid (contains_false (S := S) (x := x) fun j hj => hall.out j hj hj)
      go_wp2_with fail
      go_ret
      exact .mk (by rw [X.out]; rfl) (by (repeat (first | (with_reducible exact Below.refl _ _) | (with_reducible assumption) | (with_reducible refine Later.out _ ?_) | (with_reducible refine bel_alloc ?_ _) | (with_reducible refine bel_drew ?_) | (with_reducible refine bel_drewN ?_ _) | (with_reducible refine bel_set ?_ ?_ _) | (with_reducible refine After.out _ ?_ ?_) | (dsimp only; omega) | omega | (simp only [World.size_alloc, World.size_setCell, World.size_drew]; omega))))
end Go.Proofs.Ytkkhjbdnpobpnaa

import Derived.Test.YtokbolgaokbdcaaDoorHasI
import Derived.Test.YtokbolgaokbdcaaDoorSizes
/- Slices of int64 for the laws: sizes and copies. -/
set_option linter.unusedSimpArgs false
set_option linter.unusedVariables false
namespace Go.Proofs.YtokbolgaokbdcaaDoor
open Go.RowKit
theorem set_rgt {α : Type} {A B : List α} {m i : Nat} {x : α} (h : A.length = m) : (A ++ B).set (m + i) x = A ++ B.set i x := by
  subst h
  rw [List.set_append_right _ _ (by omega)]
  congr 2
  omega
set_option maxHeartbeats 400000 in
theorem szInt64S_any (a : Option Addr) (n c : Nat) (left : Int) (w : World) (hm : n ≤ maxLen) (h3 : 0 ≤ left) (h4 : left ≤ 1048576) :
    Calls Tryd.prog 59 #[.slice a n c, .int .i64 left] w (Ret w (.int .i64 (szR n left))) := by
  unfold maxLen at hm
  by_cases c1 : left - n < 0
  · have X := Lib.hid (szR_no (S := n) (left := left) c1)
    go_enter Tryd.func59, Tryd.ntmps59
    go_wp2_with fail
    go_ret
    exact .mk (by rw [X.out]; rfl) (by (repeat (first | (with_reducible exact Below.refl _ _) | (with_reducible assumption) | (with_reducible refine Later.out _ ?_) | (with_reducible refine bel_alloc ?_ _) | (with_reducible refine bel_drew ?_) | (with_reducible refine bel_drewN ?_ _) | (with_reducible refine bel_set ?_ ?_ _) | (with_reducible refine After.out _ ?_ ?_) | (dsimp only; omega) | omega | (simp only [World.size_alloc, World.size_setCell, World.size_drew]; omega))))
  · have X := Lib.hid (szR_yes (S := n) (left := left) c1)
    go_enter Tryd.func59, Tryd.ntmps59
    go_wp2_with fail
    go_ret
    exact .mk (by rw [X.out]; rfl) (by (repeat (first | (with_reducible exact Below.refl _ _) | (with_reducible assumption) | (with_reducible refine Later.out _ ?_) | (with_reducible refine bel_alloc ?_ _) | (with_reducible refine bel_drew ?_) | (with_reducible refine bel_drewN ?_ _) | (with_reducible refine bel_set ?_ ?_ _) | (with_reducible refine After.out _ ?_ ?_) | (dsimp only; omega) | omega | (simp only [World.size_alloc, World.size_setCell, World.size_drew]; omega))))
/-- A row of int64 of which the first `k` are copied. -/
def intPart (l : List Int) (k : Nat) : List Value := intCells (l.take k) ++ List.replicate (l.length - k) (.int .i64 0)
theorem intPart_full (l : List Int) : intPart l l.length = intCells l := by simp [intPart]
theorem length_intPart (l : List Int) (k : Nat) (h : k ≤ l.length) : (intPart l k).length = l.length := by
  simp [intPart, length_intCells]; omega
theorem intPart_step (l : List Int) (k : Nat) (h : k < l.length) : (intPart l k).set k (.int .i64 l[k]) = intPart l (k + 1) := by
  have e : l.length - k = (l.length - (k + 1)) + 1 := by omega
  have hk : (intCells (l.take k)).length = k := by simp [intCells]; omega
  unfold intPart
  rw [e, List.replicate_succ]
  have := set_rgt (A := intCells (l.take k)) (B := Value.int .i64 0 :: List.replicate (l.length - (k + 1)) (Value.int .i64 0)) (m := k) (i := 0) (x := Value.int .i64 l[k]) hk
  simp only [Nat.add_zero] at this
  rw [this, List.set_cons_zero, List.take_add_one, List.getElem?_eq_getElem h]
  show _ = intCells (l.take k ++ [l[k]]) ++ _
  rw [intCells_snoc, List.append_assoc]
  rfl
set_option maxRecDepth 4000 in
set_option maxHeartbeats 1000000 in
theorem toInt64S_any (l : List Int) (a : Option Addr) (n c : Nat) (w : World) (hn : l.length = n) (hm : n ≤ 1048576) (hr : Row w a (intCells l)) :
    Calls Tryd.prog 20 #[.slice a n c] w (RetOwn w 2 1 n (intCells l) id) := by
  subst hn
  have hmk := run_make_row' (P := Tryd.prog) 30 2 (.int .i64 0) 8 Tryd.underlying30 info_i64 rfl .i64 .i64 l.length (by omega) (by omega)
  have hown0 := World.ownsRow_lit (base := w.heap.size) (e := 2) (size := 1) w (madeCells #[.int .i64 0] l.length) l.length (Nat.le_refl _) (by unfold maxLen; omega) (by simp [size_madeCells])
  rw [toList_madeCells_one] at hown0
  rw [show List.replicate l.length (Value.int .i64 0) = intPart l 0 by simp [intPart, intCells]] at hown0
  replace hr := Lib.hid hr
  have HO := Lib.hid hown0
  clear hown0
  go_enter Tryd.func20, Tryd.ntmps20
  go_wp2_with fail
  clear hmk
  go_loopw [4] (fun i wr => ∃ k : Nat, k ≤ l.length ∧ i = .int .i64 k ∧ wr.ownsRow w.heap.size 2 1 (.slice (some ⟨w.heap.size, 0, none⟩) l.length l.length) l.length (intPart l k) ∧ ∃ z : Later w, wr = z.w) (fun i _ => l.length - (intOf i).toNat)
  case atStart => exact ⟨0, Nat.zero_le _, rfl, HO.out, ⟨_, bel_alloc (Below.refl _ _) _⟩, rfl⟩
  case round =>
    obtain ⟨k, hk, rfl, hown, z, rfl⟩ := hrel
    by_cases hlt : k < l.length
    · obtain ⟨b, o, rfl, hb, hc⟩ := hr.out.int hlt
      have hws : w.heap.size < z.w.heap.size := (hown.lt w.heap.size rfl).2
      have hl := length_intPart l k hk
      obtain ⟨u0, r0⟩ : ∃ u, z.w.cell? ⟨w.heap.size, k, none⟩ = some u := ⟨_, (hown.cellAt k (by omega)).trans (List.getElem?_eq_getElem (by omega))⟩
      have f0 := hown.frozenAt k
      have hst := (hown.stored k (.int .i64 l[k])).1
      rw [intPart_step l k hlt] at hst
      replace hst := Lib.hid hst
      clear hown
      go_wp2_with fail
      go_roundw
      case rel =>
        refine ⟨k + 1, by omega, by go_num, hst.out, LaterC.mk ?_⟩
        (repeat (first | (with_reducible exact Below.refl _ _) | (with_reducible assumption) | (with_reducible refine Later.out _ ?_) | (with_reducible refine bel_alloc ?_ _) | (with_reducible refine bel_drew ?_) | (with_reducible refine bel_drewN ?_ _) | (with_reducible refine bel_set ?_ ?_ _) | (with_reducible refine After.out _ ?_ ?_) | (dsimp only; omega) | omega | (simp only [World.size_alloc, World.size_setCell, World.size_drew]; omega)))
      case measure => first | (simp [intOf]; done) | (simp [intOf]; omega) | omega
    · obtain rfl : k = l.length := by omega
      rw [intPart_full] at hown
      replace hown := Lib.hid hown
      go_wp2_with fail
      go_ret
      exact .mk _ rfl hown.out z.bel
end Go.Proofs.YtokbolgaokbdcaaDoor

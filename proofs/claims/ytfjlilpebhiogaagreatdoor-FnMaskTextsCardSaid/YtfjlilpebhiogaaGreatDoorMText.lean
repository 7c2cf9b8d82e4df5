import Derived.Test.YtfjlilpebhiogaaGreatDoorNum
import Derived.Test.YtfjlilpebhiogaaGreatDoorPackA
import Derived.Test.YtfjlilpebhiogaaGreatDoorMaskB
/- The texts of points and masks: both sides. -/
set_option linter.unusedSimpArgs false
set_option linter.unusedVariables false
namespace Go.Proofs.YtfjlilpebhiogaaGreatDoor
open Go.RowKit
/-- The text of a point. -/
def ptT (x y : Int) : ByteArray := decB x ++ ⟨#[58]⟩ ++ decB y
theorem ptT_size (x y : Int) (hx : -1000 ≤ x ∧ x ≤ 1000) (hy : -1000 ≤ y ∧ y ≤ 1000) : (ptT x y).size ≤ 17 := by
  have s1 := decB_size x (by omega) (by omega)
  have s2 := decB_size y (by omega) (by omega)
  unfold ptT
  rw [ByteArray.size_append, ByteArray.size_append]
  show (decB x).size + 1 + (decB y).size ≤ 17
  omega
set_option maxHeartbeats 4000000 in
theorem pointText_any (x y : Int) (w : World) (hx : -1000 ≤ x ∧ x ≤ 1000) (hy : -1000 ≤ y ∧ y ≤ 1000) (hT : Tab w) : Calls Tryz.prog 42 #[.agg #[.int .i64 x, .int .i64 y]] w (Ret w (.string (ptT x y))) := by
  have CF := Lib.hid (fun (w' : World) (hb : Below w.heap.size w w') => decimal_any x w' (by omega) (by omega) (hT.bel hb))
  have CT := Lib.hid (fun (w' : World) (hb : Below w.heap.size w w') => decimal_any y w' (by omega) (by omega) (hT.bel hb))
  have s1 := decB_size x (by omega) (by omega)
  have s2 := decB_size y (by omega) (by omega)
  unfold ptT
  obtain ⟨D1, hD1⟩ : ∃ D, decB x = D := ⟨_, rfl⟩
  obtain ⟨D2, hD2⟩ : ∃ D, decB y = D := ⟨_, rfl⟩
  rw [hD1] at CF s1
  rw [hD2] at CT s2
  rw [hD1, hD2]
  clear hD1 hD2 hT
  go_enter Tryz.func42, Tryz.ntmps42
  go_wp2_with fail
  refine wp_region_later (by kernel_rfl) (by kernel_rfl) ?_
  repeat (go_big_quiet_step ((first | (go_at_call 59; first | with_reducible exact Calls.later (CF.out _ (by (repeat (first | (with_reducible exact Below.refl _ _) | (with_reducible assumption) | (with_reducible refine Later.out _ ?_) | (with_reducible refine bel_alloc ?_ _) | (with_reducible refine bel_drew ?_) | (with_reducible refine bel_drewN ?_ _) | (with_reducible refine bel_set ?_ ?_ _) | (with_reducible refine After.out _ ?_ ?_) | (dsimp only; omega) | omega | (simp only [World.size_alloc, World.size_setCell, World.size_drew]; omega))))) | with_reducible exact Calls.later (CT.out _ (by (repeat (first | (with_reducible exact Below.refl _ _) | (with_reducible assumption) | (with_reducible refine Later.out _ ?_) | (with_reducible refine bel_alloc ?_ _) | (with_reducible refine bel_drew ?_) | (with_reducible refine bel_drewN ?_ _) | (with_reducible refine bel_set ?_ ?_ _) | (with_reducible refine After.out _ ?_ ?_) | (dsimp only; omega) | omega | (simp only [World.size_alloc, World.size_setCell, World.size_drew]; omega)))))))))
  refine wpQuiet_nil ?_
  rintro _ ⟨xq, rfl⟩
  go_wp2_with fail
  go_ret
  exact .mk rfl (by (repeat (first | (with_reducible exact Below.refl _ _) | (with_reducible assumption) | (with_reducible refine Later.out _ ?_) | (with_reducible refine bel_alloc ?_ _) | (with_reducible refine bel_drew ?_) | (with_reducible refine bel_drewN ?_ _) | (with_reducible refine bel_set ?_ ?_ _) | (with_reducible refine After.out _ ?_ ?_) | (dsimp only; omega) | omega | (simp only [World.size_alloc, World.size_setCell, World.size_drew]; omega))))
set_option maxHeartbeats 4000000 in
theorem sPointText_any (x y : Int) (w : World) (hx : -1000 ≤ x ∧ x ≤ 1000) (hy : -1000 ≤ y ∧ y ≤ 1000) : Calls Tryz.prog 79 #[.agg #[.int .i64 x, .int .i64 y]] w (Ret w (.string (ptT x y))) := by
  have CF := Lib.hid (fun (w' : World) => sNumber_any x (by omega) (by omega) w')
  have CT := Lib.hid (fun (w' : World) => sNumber_any y (by omega) (by omega) w')
  have s1 := decB_size x (by omega) (by omega)
  have s2 := decB_size y (by omega) (by omega)
  unfold ptT
  obtain ⟨D1, hD1⟩ : ∃ D, decB x = D := ⟨_, rfl⟩
  obtain ⟨D2, hD2⟩ : ∃ D, decB y = D := ⟨_, rfl⟩
  rw [hD1] at CF s1
  rw [hD2] at CT s2
  rw [hD1, hD2]
  clear hD1 hD2
  go_enter Tryz.func79, Tryz.ntmps79
  go_wp2_with fail
  refine wp_region_later (by kernel_rfl) (by kernel_rfl) ?_
  repeat (go_big_quiet_step ((first | (go_at_call 91; first | with_reducible exact Calls.later (CF.out _) | with_reducible exact Calls.later (CT.out _)))))
  refine wpQuiet_nil ?_
  rintro _ ⟨xq, rfl⟩
  go_wp2_with fail
  go_ret
  exact .mk rfl (by (repeat (first | (with_reducible exact Below.refl _ _) | (with_reducible assumption) | (with_reducible refine Later.out _ ?_) | (with_reducible refine bel_alloc ?_ _) | (with_reducible refine bel_drew ?_) | (with_reducible refine bel_drewN ?_ _) | (with_reducible refine bel_set ?_ ?_ _) | (with_reducible refine After.out _ ?_ ?_) | (dsimp only; omega) | omega | (simp only [World.size_alloc, World.size_setCell, World.size_drew]; omega))))
/-- The text of cells. -/
def cellT (b : Bool) : UInt8 := if b then 35 else 46
def rowT (l : List Bool) : ByteArray := ⟨(l.map cellT).toArray⟩
theorem rowT_snoc (l : List Bool) (b : Bool) : rowT (l ++ [b]) = rowT l ++ ⟨#[cellT b]⟩ := by
  apply ByteArray.ext
  simp [rowT]
theorem rowT_size (l : List Bool) : (rowT l).size = l.length := by simp [rowT, ByteArray.size]
theorem rowT_take {l : List Bool} {k : Nat} (h : k < l.length) : rowT (l.take (k + 1)) = rowT (l.take k) ++ ⟨#[cellT l[k]]⟩ := by
  rw [List.take_succ_eq_append_getElem h, rowT_snoc]
/-- The cells of a row. -/
def rowL (W : Nat) (l : List Bool) (r : Nat) : List Bool := (l.drop (r * W)).take W
/-- The rows' texts, from the top, `k` of them. -/
def rowsT (W H : Nat) (l : List Bool) (k : Nat) : List ByteArray := (List.range k).map fun i => rowT (rowL W l (H - 1 - i))
theorem rowsT_succ (W H : Nat) (l : List Bool) (k : Nat) : rowsT W H l (k + 1) = rowsT W H l k ++ [rowT (rowL W l (H - 1 - k))] := by
  simp [rowsT, List.range_succ]
def spB (t r : ByteArray) : ByteArray := t ++ ⟨#[32]⟩ ++ r
/-- The text of a mask: its low point and `k` rows. -/
def maskTo (x y : Int) (W H : Nat) (l : List Bool) (k : Nat) : ByteArray := (rowsT W H l k).foldl spB (ptT x y)
theorem maskTo_zero (x y : Int) (W H : Nat) (l : List Bool) : maskTo x y W H l 0 = ptT x y := rfl
theorem maskTo_succ (x y : Int) (W H : Nat) (l : List Bool) (k : Nat) : maskTo x y W H l (k + 1) = maskTo x y W H l k ++ ⟨#[32]⟩ ++ rowT (rowL W l (H - 1 - k)) := by
  unfold maskTo
  rw [rowsT_succ, List.foldl_append]
  rfl
def maskT (x y : Int) (W H : Nat) (l : List Bool) : ByteArray := maskTo x y W H l H
theorem join_fold (a : List UInt8) (L : List ByteArray) : Lib.join (a :: L.map (·.data.toList)) [32] = (L.foldl spB ⟨a.toArray⟩).data.toList := by
  induction L generalizing a with
  | nil => simp [Lib.join, List.intercalate]
  | cons b L ih =>
    rw [List.foldl_cons, show spB ⟨a.toArray⟩ b = ⟨(a ++ 32 :: b.data.toList).toArray⟩ by apply ByteArray.ext; simp [spB], ← ih]
    simp [Lib.join, List.intercalate]
    cases L <;> simp
theorem join_mask (x y : Int) (W H : Nat) (l : List Bool) : (⟨(Lib.join ((ptT x y :: rowsT W H l H).map (·.data.toList)) (⟨#[32]⟩ : ByteArray).data.toList).toArray⟩ : ByteArray) = maskT x y W H l := by
  rw [List.map_cons]
  have h := join_fold (ptT x y).data.toList (rowsT W H l H)
  have e : (⟨#[32]⟩ : ByteArray).data.toList = [32] := rfl
  rw [e, h]
  apply ByteArray.ext
  simp [maskT, maskTo]
theorem rowL_len {W : Nat} {l : List Bool} {r : Nat} (h : (r + 1) * W ≤ l.length) : (rowL W l r).length = W := by
  have : (r + 1) * W = r * W + W := Nat.succ_mul r W
  simp [rowL]
  omega
theorem maskTo_size (x y : Int) (W H : Nat) (l : List Bool) (hx : -1000 ≤ x ∧ x ≤ 1000) (hy : -1000 ≤ y ∧ y ≤ 1000) (k : Nat) (hW : W ≤ 24) : (maskTo x y W H l k).size ≤ 17 + 25 * k := by
  induction k with
  | zero => exact ptT_size x y hx hy
  | succ k ih =>
    rw [maskTo_succ, ByteArray.size_append, ByteArray.size_append, rowT_size]
    have : (rowL W l (H - 1 - k)).length ≤ W := by simp [rowL]; omega
    show (maskTo x y W H l k).size + 1 + (rowL W l (H - 1 - k)).length ≤ _
    omega
theorem mask_dims {x y : Int} {W H n : Nat} (h : isMaskB x y W H n = true) : 1 ≤ W ∧ W ≤ 24 ∧ 1 ≤ H ∧ H ≤ 24 ∧ n = H * W ∧ isPointB x y = true := by
  unfold isMaskB at h
  simp only [Bool.and_eq_true, beq_iff_eq, inB_iff] at h
  obtain ⟨⟨⟨⟨h1, h2⟩, h3⟩, h4⟩, h5⟩ := h
  refine ⟨by omega, by omega, by omega, by omega, ?_, h3⟩
  have : ((n : Nat) : Int) = ((H * W : Nat) : Int) := by rw [h5, Int.natCast_mul, Int.mul_comm]
  exact Int.ofNat_inj.1 this
theorem own_cap {w : World} {base e n c : Nat} {a : Option Addr} {xs : List Value} (h : w.ownsRow base e 1 (.slice a n c) n xs) : n ≤ c := by
  rcases h.2 with ⟨h0, h1⟩ | ⟨g', cap', cur, hv, hg, hb, h1, h2, h3, h4⟩
  · cases h0; omega
  · cases hv; exact h1
end Go.Proofs.YtfjlilpebhiogaaGreatDoor

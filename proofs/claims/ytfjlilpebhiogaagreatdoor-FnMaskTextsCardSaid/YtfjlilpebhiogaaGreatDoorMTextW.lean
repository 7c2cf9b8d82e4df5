import Derived.Test.YtfjlilpebhiogaaGreatDoorMText
import Derived.Test.YtfjlilpebhiogaaGreatDoorPackA
/- MaskText: both sides. -/
set_option linter.unusedSimpArgs false
set_option linter.unusedVariables false
namespace Go.Proofs.YtfjlilpebhiogaaGreatDoor
open Go.RowKit
theorem rowL_get {W : Nat} {l : List Bool} {r k : Nat} (hk : k < W) (h : r * W + W ≤ l.length) : ∃ h1 : r * W + k < l.length, (rowL W l r)[k]? = some l[r * W + k] := by
  refine ⟨by omega, ?_⟩
  unfold rowL
  rw [List.getElem?_take_of_lt hk, List.getElem?_drop, List.getElem?_eq_getElem (by omega)]
theorem row_at {w : World} {b o : Nat} {l : List Bool} (h : Row w (some ⟨b, o, none⟩) (boolCells l)) {k : Nat} (hk : k < l.length) : w.cell? ⟨b, o + k, none⟩ = some (.bool l[k]) := by
  obtain ⟨b', o', e, hc⟩ := h k _ (boolCells_get hk)
  cases e
  exact hc
set_option maxHeartbeats 2000000 in
theorem rowText_any (x y : Int) (W H r : Nat) (l : List Bool) (b o n c : Nat) (w : World) (hn : l.length = n) (hW : 1 ≤ W) (hW2 : W ≤ 24) (hr2 : r ≤ 24) (hp : r * W + W ≤ n) (hm : n ≤ 576) (hc : n ≤ c) (hr : Row w (some ⟨b, o, none⟩) (boolCells l)) :
    Calls Tryz.prog 43 #[.agg #[.int .i64 x, .int .i64 y, .int .i64 W, .int .i64 H, .slice (some ⟨b, o, none⟩) n c], .int .i64 r] w (Ret w (.string (rowT (rowL W l r)))) := by
  obtain ⟨p, hpe⟩ : ∃ p, r * W = p := ⟨_, rfl⟩
  have hlen : (rowL W l r).length = W := rowL_len (by rw [Nat.succ_mul]; omega)
  obtain ⟨S, hS⟩ : ∃ S, rowL W l r = S := ⟨_, rfl⟩
  have hat : ∀ k, k < W → ∃ h1 : k < S.length, ∀ w', Below w.heap.size w w' → w'.cell? ⟨b, o + p + k, none⟩ = some (.bool S[k]) := fun k hk => by
    obtain ⟨h1, h2⟩ := rowL_get (l := l) (r := r) hk (by omega)
    rw [hS] at h2
    have h3 : k < S.length := by rw [← hS, hlen]; exact hk
    refine ⟨h3, fun w' hb => ?_⟩
    rw [List.getElem?_eq_getElem h3] at h2
    injection h2 with h2
    have h4 := row_at (hr.bel hb) h1
    rw [h2, ← h4]
    congr 2
    rw [hpe]
    omega
  rw [hS] at hlen ⊢
  replace hat := Lib.hid hat
  have e1 : (r : Int) * (W : Int) = (p : Int) := by rw [← hpe]; exact (Int.natCast_mul r W).symm
  have e2 : ((r : Int) + 1) * (W : Int) = (p : Int) + W := by rw [Int.add_mul, e1, Int.one_mul]
  have hbz := World.block_lt_of_cell? _ _ (row_at hr (k := p) (by omega))
  simp only at hbz
  clear hS hr hpe
  subst hn
  go_enter Tryz.func43, Tryz.ntmps43
  go_wp2_with fail
  go_loopw [5, 21] (fun t i wr => ∃ k : Nat, k ≤ W ∧ i = .int .i64 k ∧ t = .string (rowT (S.take k)) ∧ ∃ z : Later (w.alloc (.cells #[.int .i64 x, .int .i64 y, .int .i64 W, .int .i64 H, .slice (some ⟨b, o, none⟩) l.length c] 39)), wr = z.w) (fun _ i _ => W - (intOf i).toNat)
  case atStart => exact ⟨0, Nat.zero_le _, rfl, rfl, ⟨_, Below.refl _ _⟩, rfl⟩
  case round =>
    obtain ⟨k, hk, rfl, rfl, z, rfl⟩ := hrel
    have hzz := z.bel.size
    (try simp only [World.size_alloc] at hzz)
    by_cases hlt : k < W
    · obtain ⟨h1, h2⟩ := hat.out k hlt
      have q := h2 z.w (by (repeat (first | (with_reducible exact Below.refl _ _) | (with_reducible assumption) | (with_reducible refine Later.out _ ?_) | (with_reducible refine bel_alloc ?_ _) | (with_reducible refine bel_drew ?_) | (with_reducible refine bel_drewN ?_ _) | (with_reducible refine bel_set ?_ ?_ _) | (with_reducible refine After.out _ ?_ ?_) | (dsimp only; omega) | omega | (simp only [World.size_alloc, World.size_setCell, World.size_drew]; omega))))
      have hi1 : (k : Int) < (W : Int) := by omega
      have hsz := rowT_size (S.take k)
      rw [List.length_take] at hsz
      have hst := Lib.hid (rowT_take (l := S) (k := k) h1)
      obtain ⟨T, hT⟩ : ∃ T, rowT (S.take k) = T := ⟨_, rfl⟩
      rw [hT] at hsz hst ⊢
      have hTz : T.size ≤ 24 := by omega
      clear hT h2 hsz
      cases hb : S[k]
      all_goals
        rw [hb] at q hst
        clear hb
        go_wp2_with fail
        go_roundw
        case rel => exact ⟨k + 1, by omega, by go_num, congrArg Value.string hst.out.symm, z, rfl⟩
        case measure => first | (simp [intOf]; done) | (simp [intOf]; omega) | omega
    · obtain rfl : k = W := by omega
      have hi1 : ¬ (k : Int) < (k : Int) := by omega
      have ht : S.take k = S := by rw [List.take_of_length_le (by omega)]
      rw [ht]
      go_wp2_with fail
      go_ret
      exact .mk rfl (by (repeat (first | (with_reducible exact Below.refl _ _) | (with_reducible assumption) | (with_reducible refine Later.out _ ?_) | (with_reducible refine bel_alloc ?_ _) | (with_reducible refine bel_drew ?_) | (with_reducible refine bel_drewN ?_ _) | (with_reducible refine bel_set ?_ ?_ _) | (with_reducible refine After.out _ ?_ ?_) | (dsimp only; omega) | omega | (simp only [World.size_alloc, World.size_setCell, World.size_drew]; omega))))
/-- Both texts of a row of a mask: what goes ahead of a cell. -/
theorem maskTo_pass {x y : Int} {W H : Nat} {l : List Bool} {j : Nat} : maskTo x y W H l (j + 1) = maskTo x y W H l j ++ ⟨#[32]⟩ ++ rowT (rowL W l (H - 1 - j)) := maskTo_succ x y W H l j
set_option maxRecDepth 4000 in
set_option maxHeartbeats 4000000 in
theorem sMaskText_any (x y : Int) (W H : Nat) (l : List Bool) (b o n c : Nat) (w : World) (hn : l.length = n) (hM : isMaskB x y W H n = true) (hr : Row w (some ⟨b, o, none⟩) (boolCells l)) :
    Calls Tryz.prog 46 #[.agg #[.int .i64 x, .int .i64 y, .int .i64 W, .int .i64 H, .slice (some ⟨b, o, none⟩) n c]] w (Ret w (.string (maskT x y W H l))) := by
  obtain ⟨d1, d2, d3, d4, d5, d6⟩ := mask_dims hM
  obtain ⟨x1, x2, y1, y2⟩ := isPointB_iff.1 d6
  have hsz := fun k => maskTo_size x y W H l ⟨x1, x2⟩ ⟨y1, y2⟩ k d2
  have hst := fun k => maskTo_pass (x := x) (y := y) (W := W) (H := H) (l := l) (j := k)
  have hz0 := maskTo_zero x y W H l
  have hz1 : maskTo x y W H l H = maskT x y W H l := rfl
  obtain ⟨M, hMd⟩ : ∃ M : Nat → ByteArray, maskTo x y W H l = M := ⟨_, rfl⟩
  obtain ⟨T, hTd⟩ : ∃ T, maskT x y W H l = T := ⟨_, rfl⟩
  rw [hMd] at hsz hst hz0 hz1
  rw [hTd] at hz1 ⊢
  have CP := Lib.hid (fun w => sPointText_any x y w ⟨x1, x2⟩ ⟨y1, y2⟩)
  rw [← hz0] at CP
  have hat : ∀ r k, r < H → k < W → ∃ (h1 : k < (rowL W l r).length) (p : Nat), (r : Int) * (W : Int) + (k : Int) = (p : Int) ∧ p < n ∧ ∀ w', Below w.heap.size w w' → w'.cell? ⟨b, o + p, none⟩ = some (.bool (rowL W l r)[k]) := fun r k hrH hk => by
    have hpp : r * W + W ≤ n := by
      rw [d5]
      have := Nat.mul_le_mul_right W (show r + 1 ≤ H by omega)
      rw [Nat.succ_mul] at this
      exact this
    obtain ⟨h1, h2⟩ := rowL_get (l := l) (r := r) hk (by omega)
    have hlen : (rowL W l r).length = W := rowL_len (by rw [Nat.succ_mul]; omega)
    have h3 : k < (rowL W l r).length := by omega
    refine ⟨h3, r * W + k, by rw [Int.natCast_add, Int.natCast_mul], by omega, fun w' hb => ?_⟩
    rw [List.getElem?_eq_getElem h3] at h2
    injection h2 with h2
    rw [h2]
    exact row_at (hr.bel hb) h1
  have hbz := World.block_lt_of_cell? _ _ (row_at hr (k := 0) (by have := Nat.mul_pos (show 0 < H by omega) (show 0 < W by omega); omega))
  simp only at hbz
  have hn5 : n ≤ 576 := by rw [d5]; exact Nat.mul_le_mul d4 d2
  replace hat := Lib.hid hat
  replace hsz := Lib.hid hsz
  replace hst := Lib.hid hst
  replace hz0 := Lib.hid hz0
  replace hz1 := Lib.hid hz1
  have hlr := Lib.hid (fun r (hrH : r < H) => show (rowL W l r).length = W from rowL_len (by
    rw [hn, d5]
    exact Nat.mul_le_mul_right W (by omega)))
  clear hr hMd hTd hM d5 d6
  subst hn
  go_enter Tryz.func46, Tryz.ntmps46
  go_wp2_with fail
  with_reducible refine (CP.out _).mono ?_
  rintro e w' ⟨rfl, y1, rfl⟩
  have hsy1 := y1.bel.size
  (try simp only [World.size_alloc, World.size_setCell, World.size_drew] at hsy1)
  go_wp2_with fail
  go_loopw [3, 4] (fun t i wr => ∃ k : Nat, k ≤ H ∧ i = .int .i64 ((H : Int) - 1 - k) ∧ t = .string (M k) ∧ ∃ z : Later y1.w, wr = z.w) (fun _ i _ => (intOf i + 1).toNat)
  case atStart => exact ⟨0, Nat.zero_le _, by simp, rfl, ⟨_, Below.refl _ _⟩, rfl⟩
  case round =>
    obtain ⟨k, hk, rfl, rfl, z, rfl⟩ := hrel
    have hzz := z.bel.size
    have hMz := hsz.out k
    by_cases hlt : k < H
    · have hi1 : 0 ≤ (H : Int) - 1 - k := by omega
      have hst2 := Lib.hid (hst.out k)
      have hl2 := hlr.out (H - 1 - k) (by omega)
      have hat2 := Lib.hid (fun j hj => hat.out (H - 1 - k) j (by omega) hj)
      obtain ⟨S, hS⟩ : ∃ S, rowL W l (H - 1 - k) = S := ⟨_, rfl⟩
      rw [show (((H - 1 - k : Nat) : Int)) = (H : Int) - 1 - k by omega] at hat2
      rw [hS] at hst2 hl2 hat2
      clear hS
      obtain ⟨Mk, hMk⟩ : ∃ Mk, M k = Mk := ⟨_, rfl⟩
      rw [hMk] at hst2 hMz ⊢
      clear hMk
      obtain ⟨i, hi⟩ : ∃ i : Int, (H : Int) - 1 - k = i := ⟨_, rfl⟩
      rw [hi] at hat2 hi1 ⊢
      have hi2 : i ≤ 24 := by omega
      go_wp2_with fail
      go_loopw [3, 5] (fun t j wr => ∃ m : Nat, m ≤ W ∧ j = .int .i64 m ∧ t = .string (Mk ++ ⟨#[32]⟩ ++ rowT (S.take m)) ∧ ∃ z : Later y1.w, wr = z.w) (fun _ j _ => W - (intOf j).toNat)
      case atStart => exact ⟨0, Nat.zero_le _, rfl, by apply congrArg Value.string; apply ByteArray.ext; simp [rowT], z, rfl⟩
      case round =>
        obtain ⟨m, hm, rfl, rfl, z, rfl⟩ := hrel
        have hzz := z.bel.size
        by_cases hlm : m < W
        · obtain ⟨h1, p, hp, hpn, q⟩ := hat2.out m hlm
          have q := q z.w (by (repeat (first | (with_reducible exact Below.refl _ _) | (with_reducible assumption) | (with_reducible refine Later.out _ ?_) | (with_reducible refine bel_alloc ?_ _) | (with_reducible refine bel_drew ?_) | (with_reducible refine bel_drewN ?_ _) | (with_reducible refine bel_set ?_ ?_ _) | (with_reducible refine After.out _ ?_ ?_) | (dsimp only; omega) | omega | (simp only [World.size_alloc, World.size_setCell, World.size_drew]; omega))))
          have hj1 : (m : Int) < (W : Int) := by omega
          have hsz2 := rowT_size (S.take m)
          rw [List.length_take] at hsz2
          have hst3 := Lib.hid (rowT_take (l := S) (k := m) h1)
          obtain ⟨R, hR⟩ : ∃ R, rowT (S.take m) = R := ⟨_, rfl⟩
          rw [hR] at hsz2 hst3 ⊢
          have hTz : (Mk ++ ⟨#[32]⟩ ++ R).size ≤ 1000 := by
            rw [ByteArray.size_append, ByteArray.size_append]
            show Mk.size + 1 + R.size ≤ 1000
            omega
          obtain ⟨Q, hQ⟩ : ∃ Q, Mk ++ ⟨#[32]⟩ ++ R = Q := ⟨_, rfl⟩
          have hst4 := Lib.hid (show ∀ B, Mk ++ ⟨#[32]⟩ ++ (R ++ B) = Q ++ B from fun B => by rw [← hQ]; exact (ByteArray.append_assoc ..).symm)
          rw [hQ] at hTz ⊢
          have hmul : i * (W : Int) ≤ 576 := by
            have := Int.mul_le_mul (show i ≤ 24 from hi2) (show (W : Int) ≤ 24 by omega) (by omega) (by omega)
            omega
          have hmul0 : 0 ≤ i * (W : Int) := Int.mul_nonneg hi1 (by omega)
          clear hR hQ hsz2
          cases hb : S[m]
          all_goals
            rw [hb] at q hst3
            clear hb
            go_wp2_with fail
            go_roundw
            case rel => exact ⟨m + 1, by omega, by go_num, by rw [hst3.out, hst4.out]; rfl, z, rfl⟩
            case measure => first | (simp [intOf]; done) | (simp [intOf]; omega) | omega
        · obtain rfl : m = W := by omega
          have hj1 : ¬ (m : Int) < (m : Int) := by omega
          have ht : S.take m = S := by rw [List.take_of_length_le (by omega)]
          rw [ht, ← hst2.out]
          go_wp2_with fail
          go_roundw
          case rel => exact ⟨k + 1, by omega, by first | go_num | (congr 1; omega), rfl, z, rfl⟩
          case measure => first | (simp [intOf]; done) | (simp [intOf]; omega) | omega
    · obtain rfl : k = H := by omega
      have hi1 : ¬ 0 ≤ (k : Int) - 1 - k := by omega
      rw [hz1.out]
      go_wp2_with fail
      go_ret
      exact .mk rfl (by (repeat (first | (with_reducible exact Below.refl _ _) | (with_reducible assumption) | (with_reducible refine Later.out _ ?_) | (with_reducible refine bel_alloc ?_ _) | (with_reducible refine bel_drew ?_) | (with_reducible refine bel_drewN ?_ _) | (with_reducible refine bel_set ?_ ?_ _) | (with_reducible refine After.out _ ?_ ?_) | (dsimp only; omega) | omega | (simp only [World.size_alloc, World.size_setCell, World.size_drew]; omega))))
end Go.Proofs.YtfjlilpebhiogaaGreatDoor

import Derived.Test.YtcpddgkloeklaaaGreatDoorToI
import Derived.Laws.BytesArg
/- Marks: texts of numbers, marks over claims and texts. -/
set_option linter.unusedSimpArgs false
set_option linter.unusedVariables false
namespace Go.Proofs.YtcpddgkloeklaaaGreatDoor
open Go.RowKit
/-- The digits of a number ahead of a text. -/
def digs (k : Nat) (out : ByteArray) : ByteArray := if h : k = 0 then out else digs (k / 10) (strOfNums [48 + (k : Int) % 10] ++ out)
termination_by k
decreasing_by omega
theorem digs_zero (out : ByteArray) : digs 0 out = out := by rw [digs]; simp
theorem digs_pos {k : Nat} (h : 0 < k) (out : ByteArray) : digs k out = digs (k / 10) (strOfNums [48 + (k : Int) % 10] ++ out) := by rw [digs, dif_neg (by omega)]
/-- The text of a mark. -/
def markT (k : Nat) : ByteArray := ⟨#[109]⟩ ++ digs k ByteArray.empty
theorem run_conv_one (w : World) (x : Int) : (convert 90 9 (.slice (some ⟨w.heap.size, 0, none⟩) 1 1)).run Tryz.prog (w.alloc (.cells #[.int .u8 x] 5)) = .ok (.string (strOfNums [x])) (w.alloc (.cells #[.int .u8 x] 5)) :=
  run_convert_bytes_arg (P := Tryz.prog) (w.alloc (.cells #[.int .u8 x] 5)) 90 5 Tryz.underlying90 Tryz.underlying5 w.heap.size 0 1 1 [x] rfl (fun i hi => by
    obtain rfl : i = 0 := by omega
    simp) _ Tryz.underlying9
set_option maxRecDepth 8000 in
set_option maxHeartbeats 1000000 in
theorem markText_any (m : Nat) (w : World) (h : 0 < m) (hm : m < 1099511627776) : Calls Tryz.prog 68 #[.int .i64 m] w (Ret w (.string (markT m))) := by
  have hm0 : decide (m = 0) = false := by simp; omega
  have kc := fun (w : World) (x : Int) => run_conv_one w x
  go_enter Tryz.func68, Tryz.ntmps68
  go_wp2_with fail
  go_loopw [0, 3] (fun kk t wr => ∃ (k : Nat) (out : ByteArray), k ≤ m ∧ kk = .int .i64 k ∧ t = .string out ∧ digs k out = digs m ByteArray.empty ∧ out.size + k ≤ m ∧ ∃ z : Later w, wr = z.w) (fun kk _ _ => (intOf kk).toNat)
  case atStart => exact ⟨m, _, Nat.le_refl _, rfl, rfl, rfl, Nat.le_of_eq (Nat.zero_add _), ⟨_, Below.refl _ _⟩, rfl⟩
  case round =>
    obtain ⟨k, out, hk, rfl, rfl, hd, hsz, z, rfl⟩ := hrel
    replace hd := Lib.hid hd
    by_cases h0 : 0 < k
    · have h1 := strOfNums_size [48 + (k : Int) % 10]
      have h2 : (strOfNums [48 + (k : Int) % 10]).size + out.size ≤ 9223372036854775807 := by rw [h1]; simp; omega
      have h3 : ((strOfNums [48 + (k : Int) % 10]).size + out.size < 9223372036854775808) := by omega
      have X := Lib.hid (show (strOfNums [48 + (k : Int) % 10] ++ out).size + k / 10 ≤ m by rw [ByteArray.size_append, h1]; simp; omega)
      clear h1
      go_wp2_with fail
      go_roundw
      case rel => exact ⟨k / 10, _, by omega, by go_num, rfl, by rw [← hd.out, digs_pos h0], X.out, ⟨_, bel_alloc z.bel (.cells #[.int .u8 (48 + (k : Int) % 10)] 5)⟩, rfl⟩
      case measure => first | (simp [intOf]; done) | (simp [intOf]; omega) | omega
    · obtain rfl : k = 0 := by omega
      have X := Lib.hid (show digs m ByteArray.empty = out by rw [← hd.out, digs_zero])
      have h2 : (ByteArray.mk #[109]).size + out.size ≤ 9223372036854775807 := by have : (ByteArray.mk #[109]).size = 1 := rfl; omega
      go_wp2_with fail
      go_ret
      exact .mk (by unfold markT; rw [X.out]; rfl) (by (repeat (first | (with_reducible exact Below.refl _ _) | (with_reducible assumption) | (with_reducible refine Later.out _ ?_) | (with_reducible refine bel_alloc ?_ _) | (with_reducible refine bel_drew ?_) | (with_reducible refine bel_drewN ?_ _) | (with_reducible refine bel_set ?_ ?_ _) | (with_reducible refine After.out _ ?_ ?_) | (dsimp only; omega) | omega | (simp only [World.size_alloc, World.size_setCell, World.size_drew]; omega))))
def mT (k : Int) : ByteArray := markT k.toNat
theorem mText_any (k : Int) (w : World) (h : 0 < k) (hm : k < 1099511627776) : Calls Tryz.prog 68 #[.int .i64 k] w (Ret w (.string (mT k))) := by
  obtain ⟨m, rfl⟩ : ∃ m : Nat, k = m := ⟨k.toNat, by omega⟩
  exact markText_any m w (by omega) (by omega)
/-- The cells of a marked claim. -/
def markC (k : Int) : List Value := [.string (mT k), .int .i64 (k + 1), .string (mT (k + 1 + 1)), .string (mT (k + 1 + 1 + 1)), .int .i64 (k + 1 + 1 + 1 + 1), .int .i64 (k + 1 + 1 + 1 + 1 + 1), .int .i64 (k + 1 + 1 + 1 + 1 + 1 + 1)]
def markCs (k : Int) (n : Nat) : List Value := (List.range n).flatMap fun (j : Nat) => markC (k + 7 * (j : Int))
theorem markCs_succ (k : Int) (n : Nat) : markCs k (n + 1) = markCs k n ++ markC (k + 7 * n) := by simp [markCs, List.range_succ]
theorem length_markCs (k : Int) (n : Nat) : (markCs k n).length = n * 7 := by
  induction n with
  | zero => rfl
  | succ n ih => rw [markCs_succ, List.length_append, ih]; simp [markC]; omega
theorem markCs_get {k : Int} {n : Nat} : ∀ {j : Nat} (h : j < n) {i : Nat} {v : Value}, (markC (k + 7 * j))[i]? = some v → (markCs k n)[j * 7 + i]? = some v := by
  induction n with
  | zero => intro j h; omega
  | succ n ih =>
    intro j h i v hv
    have hi : i < 7 := (List.getElem?_eq_some_iff.1 hv).1
    rw [markCs_succ]
    have hl := length_markCs k n
    by_cases hj : j < n
    · rw [List.getElem?_append_left (by omega)]; exact ih hj hv
    · obtain rfl : j = n := by omega
      rw [List.getElem?_append_right (by omega), hl, Nat.add_sub_cancel_left]; exact hv
def markCPart (xs : List Value) (k : Int) (j : Nat) : List Value := markCs k j ++ xs.drop (j * 7)
theorem markCPart_zero (xs : List Value) (k : Int) : markCPart xs k 0 = xs := by simp [markCPart, markCs]
theorem markCPart_full (xs : List Value) (k : Int) (n : Nat) (h : xs.length = n * 7) : markCPart xs k n = markCs k n := by simp [markCPart, ← h]
theorem length_markCPart (xs : List Value) (k : Int) (j : Nat) (h : j * 7 ≤ xs.length) : (markCPart xs k j).length = xs.length := by
  simp [markCPart, length_markCs]; omega
theorem drop_at {α : Type} {xs : List α} {i : Nat} (h : i < xs.length) : xs.drop i = xs[i] :: xs.drop (i + 1) := List.drop_eq_getElem_cons h
theorem markCPart_step (xs : List Value) (k : Int) (j : Nat) (h : j * 7 + 7 ≤ xs.length) (p : Int) (hp : k + 7 * j = p) :
    (((((((markCPart xs k j).set (j * 7) (.string (mT p))).set (j * 7 + 1) (.int .i64 (p + 1))).set (j * 7 + 2) (.string (mT (p + 1 + 1)))).set (j * 7 + 3) (.string (mT (p + 1 + 1 + 1)))).set (j * 7 + 4) (.int .i64 (p + 1 + 1 + 1 + 1))).set (j * 7 + 5) (.int .i64 (p + 1 + 1 + 1 + 1 + 1))).set (j * 7 + 6) (.int .i64 (p + 1 + 1 + 1 + 1 + 1 + 1)) = markCPart xs k (j + 1) := by
  subst hp
  have hl : (markCs k j).length = j * 7 := length_markCs k j
  have h0 := fun (B : List Value) (x : Value) => set_right (A := markCs k j) (B := B) (i := 0) (x := x) hl
  simp only [Nat.add_zero] at h0
  unfold markCPart
  rw [drop_at (xs := xs) (i := j * 7) (by omega), drop_at (xs := xs) (i := j * 7 + 1) (by omega), drop_at (xs := xs) (i := j * 7 + 1 + 1) (by omega), drop_at (xs := xs) (i := j * 7 + 1 + 1 + 1) (by omega), drop_at (xs := xs) (i := j * 7 + 1 + 1 + 1 + 1) (by omega), drop_at (xs := xs) (i := j * 7 + 1 + 1 + 1 + 1 + 1) (by omega), drop_at (xs := xs) (i := j * 7 + 1 + 1 + 1 + 1 + 1 + 1) (by omega), h0, set_right hl, set_right hl, set_right hl, set_right hl, set_right hl, set_right hl, markCs_succ, List.append_assoc, show (j + 1) * 7 = j * 7 + 1 + 1 + 1 + 1 + 1 + 1 + 1 by omega]
  rfl
def RetMarkS (w : World) (lo hi E S n : Nat) (a : Option Addr) (c : Nat) (cells : List Value) (v : Value) (e : Ending) (w' : World) : Prop :=
  e = .returned v ∧ ∃ z : After w lo hi, w' = z.w ∧ Owns z.w lo hi E S n a c cells
set_option maxRecDepth 8000 in
set_option maxHeartbeats 4000000 in
theorem markClaimS_any (a : Option Addr) (n c lo hi : Nat) (k : Int) (xs : List Value) (w : World) (h : Owns w lo hi 63 7 n a c xs) (hlo : hi ≤ w.heap.size) (hm : n ≤ 1048576) (hk : 0 < k) (hk' : k ≤ 549755813888) :
    Calls Tryz.prog 24 #[.slice a n c, .int .i64 k] w (RetMarkS w lo hi 63 7 n a c (markCs k n) (.int .i64 (k + 7 * n))) := by
  have hl : xs.length = n * 7 := h.own.1
  have HO := Lib.hid h
  have HL := Lib.hid hl
  clear h hl
  go_enter Tryz.func24, Tryz.ntmps24
  go_wp2_with fail
  go_loopw [1, 5] (fun kk i wr => ∃ j : Nat, j ≤ n ∧ i = .int .i64 j ∧ kk = .int .i64 (k + 7 * j) ∧ Between lo hi w wr ∧ Owns wr lo hi 63 7 n a c (markCPart xs k j)) (fun _ i _ => n - (intOf i).toNat)
  case atStart => exact ⟨0, Nat.zero_le _, rfl, by simp, Between.refl _ _ _, by rw [markCPart_zero]; exact HO.out⟩
  case round =>
    obtain ⟨j, hj, rfl, rfl, hb, ho⟩ := hrel
    by_cases hlt : j < n
    · have hxl := HL.out
      have hx : j * 7 + 7 ≤ xs.length := by omega
      obtain ⟨g, rfl, g1, g2, hc, hf⟩ := ho.at_ (j := j * 7) (by omega)
      have hpl := length_markCPart xs k j (by omega)
      have hcell : ∀ i, i < 7 → ∃ u, wr.cell? ⟨g, j * 7 + i, none⟩ = some u := fun i hi => ⟨_, (ho.own.cellAt (j * 7 + i) (by omega)).trans (List.getElem?_eq_getElem (by omega))⟩
      obtain ⟨z, rfl⟩ := AfterC.mk hb
      have hzs := z.btw.size
      have hgz : g < z.w.heap.size := by omega
      obtain ⟨u0, r0⟩ := hcell 0 (by omega)
      obtain ⟨u1, r1⟩ := hcell 1 (by omega)
      obtain ⟨u2, r2⟩ := hcell 2 (by omega)
      obtain ⟨u3, r3⟩ := hcell 3 (by omega)
      obtain ⟨u4, r4⟩ := hcell 4 (by omega)
      obtain ⟨u5, r5⟩ := hcell 5 (by omega)
      obtain ⟨u6, r6⟩ := hcell 6 (by omega)
      rw [Nat.add_zero] at r0
      have f1 := ho.own.frozenAt (j * 7 + 1)
      have f2 := ho.own.frozenAt (j * 7 + 2)
      have f3 := ho.own.frozenAt (j * 7 + 3)
      have f4 := ho.own.frozenAt (j * 7 + 4)
      have f5 := ho.own.frozenAt (j * 7 + 5)
      have f6 := ho.own.frozenAt (j * 7 + 6)
      have hst := fun p hp => markCPart_step xs k j hx p hp
      replace hst := Lib.hid hst
      have HS := Lib.hid ho
      clear hb ho hcell hc
      obtain ⟨p, hp⟩ : ∃ p, k + 7 * (j : Int) = p := ⟨_, rfl⟩
      rw [hp]
      have hp1 : 0 < p := by omega
      have hp2 : p ≤ 549755813888 + 7340032 := by omega
      have HP := Lib.hid hp
      have HP2 := Lib.hid (show k + 7 * ((j + 1 : Nat) : Int) = p + 1 + 1 + 1 + 1 + 1 + 1 + 1 by omega)
      clear hp
      go_wp2_with fail
      with_reducible refine (mText_any p _ hp1 (by omega)).mono ?_
      rintro e w' ⟨rfl, y1, rfl⟩
      have hsy1 := y1.bel.size
      (try simp only [World.size_alloc, World.size_setCell, World.size_drew] at hsy1)
      have lt1 : g < y1.w.heap.size := by omega
      go_wp2_with fail
      with_reducible refine (mText_any (p + 1 + 1) _ (by omega) (by omega)).mono ?_
      rintro e w' ⟨rfl, y2, rfl⟩
      have hsy2 := y2.bel.size
      (try simp only [World.size_alloc, World.size_setCell, World.size_drew] at hsy2)
      have lt2 : g < y2.w.heap.size := by omega
      go_wp2_with fail
      with_reducible refine (mText_any (p + 1 + 1 + 1) _ (by omega) (by omega)).mono ?_
      rintro e w' ⟨rfl, y3, rfl⟩
      have hsy3 := y3.bel.size
      (try simp only [World.size_alloc, World.size_setCell, World.size_drew] at hsy3)
      have lt3 : g < y3.w.heap.size := by omega
      have lt4 : z.w.heap.size < z.w.heap.size + 1 := by omega
      go_wp2_with fail
      have O1 := ((HS.out.bel (B := z.w.heap.size) y1.bel (by omega)).set (j := j * 7) (.string (mT p))).set (j := j * 7 + 1) (.int .i64 (p + 1))
      have O2 := (O1.bel y2.bel (by simp only [World.size_setCell]; omega)).set (j := j * 7 + 2) (.string (mT (p + 1 + 1)))
      have O3 := ((((O2.bel y3.bel (by simp only [World.size_setCell]; omega)).set (j := j * 7 + 3) (.string (mT (p + 1 + 1 + 1)))).set (j := j * 7 + 4) (.int .i64 (p + 1 + 1 + 1 + 1))).set (j := j * 7 + 5) (.int .i64 (p + 1 + 1 + 1 + 1 + 1))).set (j := j * 7 + 6) (.int .i64 (p + 1 + 1 + 1 + 1 + 1 + 1))
      rw [hst.out p HP.out] at O3
      replace O3 := Lib.hid O3
      clear O1 O2
      go_roundw
      case rel => exact ⟨j + 1, by omega, by go_num, by rw [HP2.out], by (repeat (first | (with_reducible exact Between.refl _ _ _) | (with_reducible refine Between.drew ?_) | (with_reducible refine Between.drewN ?_ _) | (with_reducible refine Between.set ?_ ?_ ?_ _) | (with_reducible refine btw_later _ ?_) | (with_reducible refine btw_alloc ?_ _) | (with_reducible refine btw_after _ ?_) | (with_reducible assumption) | (dsimp only; omega) | omega)), O3.out⟩
      case measure => simp [intOf]; omega
    · obtain rfl : j = n := by omega
      rw [markCPart_full _ _ _ HL.out] at ho
      have HB := Lib.hid hb
      have HO := Lib.hid ho
      clear hb ho
      go_wp2_with fail
      go_ret
      exact ⟨rfl, ⟨_, HB.out⟩, rfl, HO.out⟩
end Go.Proofs.YtcpddgkloeklaaaGreatDoor

import Derived.Test.YtcpddgkloeklaaaGreatDoorList
import Derived.Test.YtcpddgkloeklaaaGreatDoorApp
/- Lists of claims: sizes, copies, comparison for the laws. -/
set_option linter.unusedSimpArgs false
set_option linter.unusedVariables false
namespace Go.Proofs.YtcpddgkloeklaaaGreatDoor
open Go.RowKit
def clmsSz (L : List Clm) : Int := (L.map clmSz).sum
theorem clmsSz_succ {L : List Clm} {k : Nat} (h : k < L.length) : clmsSz (L.take (k + 1)) = clmsSz (L.take k) + clmSz L[k] := by
  unfold clmsSz
  rw [List.take_succ_eq_append_getElem h, List.map_append, List.sum_append]
  simp
theorem clmsSz_nonneg : ∀ L : List Clm, 0 ≤ clmsSz L
  | [] => by simp [clmsSz]
  | c :: L => by
    have h1 := clmsSz_nonneg L
    have h2 := clmSz_nonneg c
    unfold clmsSz at h1 ⊢
    simp only [List.map_cons, List.sum_cons]
    omega
theorem clmsSz_take (L : List Clm) (k : Nat) : clmsSz (L.take k) ≤ clmsSz L := by
  have h : clmsSz L = clmsSz (L.take k) + clmsSz (L.drop k) := by
    unfold clmsSz
    rw [← List.sum_append, ← List.map_append, List.take_append_drop]
  have := clmsSz_nonneg (L.drop k)
  omega
theorem clmSz_mem : ∀ {L : List Clm} {c : Clm}, c ∈ L → clmSz c ≤ clmsSz L
  | d :: L, c, h => by
    have h1 := clmsSz_nonneg L
    have h2 := clmSz_nonneg d
    have e : clmsSz (d :: L) = clmSz d + clmsSz L := by simp [clmsSz]
    rcases List.mem_cons.1 h with rfl | h
    · omega
    · have := clmSz_mem h
      omega
/-- What a list of claims weighs for the laws. -/
def listSz (L : List Clm) : Int := L.length + clmsSz L
theorem listSz_ok {L : List Clm} {k : Int} (h : ¬ (k - listSz L < 0)) (hk : k ≤ 1048576) : ∀ c ∈ L, ClmOk c := fun c hc => by
  have := clmSz_mem hc
  unfold listSz at h
  exact clmOk_of (k := k) (by omega) hk
theorem listSz_len {L : List Clm} {k : Int} (h : ¬ (k - listSz L < 0)) (hk : k ≤ 1048576) : L.length ≤ 1048576 := by
  have := clmsSz_nonneg L
  unfold listSz at h
  omega
theorem listSz_nonneg (L : List Clm) : 0 ≤ listSz L := by have := clmsSz_nonneg L; unfold listSz; omega
set_option maxHeartbeats 1000000 in
theorem szClaimS_any (L : List Clm) (a : Option Addr) (n c : Nat) (left : Int) (w : World) (hn : L.length = n) (hm : n ≤ maxLen) (hr : Row w a (clmsCells L)) (hmx : ∀ c ∈ L, ClmMax c) (h3 : 0 ≤ left) (h4 : left ≤ 1048576) :
    Calls Tryz.prog 15 #[.slice a n c, .int .i64 left] w (Ret w (.int .i64 (szR (listSz L) left))) := by
  subst hn
  unfold maxLen at hm
  have hnn := clmsSz_nonneg L
  by_cases c1 : left - L.length < 0
  · have X := Lib.hid (szR_no (S := listSz L) (left := left) (by unfold listSz; omega))
    clear hr hmx
    go_enter Tryz.func15, Tryz.ntmps15
    go_wp2_with fail
    go_ret
    exact .mk (by rw [X.out]; rfl) (by (repeat (first | (with_reducible exact Below.refl _ _) | (with_reducible assumption) | (with_reducible refine Later.out _ ?_) | (with_reducible refine bel_alloc ?_ _) | (with_reducible refine bel_drew ?_) | (with_reducible refine bel_drewN ?_ _) | (with_reducible refine bel_set ?_ ?_ _) | (with_reducible refine After.out _ ?_ ?_) | (dsimp only; omega) | omega | (simp only [World.size_alloc, World.size_setCell, World.size_drew]; omega))))
  replace hr := Lib.hid hr
  replace hmx := Lib.hid hmx
  go_enter Tryz.func15, Tryz.ntmps15
  go_wp2_with fail
  go_loopw [1, 5] (fun t1 t5 wr => ∃ k : Nat, k ≤ L.length ∧ t5 = .int .i64 k ∧ t1 = .int .i64 (left - L.length - clmsSz (L.take k)) ∧ 0 ≤ left - L.length - clmsSz (L.take k) ∧ ∃ z : Later w, wr = z.w) (fun _ t5 _ => L.length - (intOf t5).toNat)
  case atStart => exact ⟨0, Nat.zero_le _, rfl, by simp [clmsSz], by simp [clmsSz]; omega, ⟨_, Below.refl _ _⟩, rfl⟩
  case round =>
    obtain ⟨k, hk, rfl, rfl, hp, z, rfl⟩ := hrel
    have hk0 := clmsSz_nonneg (L.take k)
    by_cases hlt : k < L.length
    · obtain ⟨b, o, rfl, hb, q0, q1, q2, q3, q4, q5, q6⟩ := hr.out.clm hlt
      have hC := fun w => szClaim_any L[k] (left - L.length - clmsSz (L.take k)) w (hmx.out _ (List.getElem_mem hlt)) hp (by omega)
      have hsucc := clmsSz_succ hlt
      have hle := clmsSz_take L (k + 1)
      have hnk := clmSz_nonneg L[k]
      obtain ⟨p, hpe⟩ : ∃ p, left - L.length - clmsSz (L.take k) = p := ⟨_, rfl⟩
      rw [hpe] at hp
      simp only [hpe] at hC ⊢
      by_cases hs : p - clmSz L[k] < 0
      · rw [szR_no hs] at hC
        replace hC := Lib.hid hC
        have X := Lib.hid (szR_no (S := listSz L) (left := left) (by unfold listSz; omega))
        clear hpe hsucc
        go_wp2_with fail
        with_reducible refine (hC.out _).mono ?_
        rintro e w' ⟨rfl, y1, rfl⟩
        have hsy1 := y1.bel.size
        (try simp only [World.size_alloc, World.size_setCell, World.size_drew] at hsy1)
        go_wp2_with fail
        go_ret
        exact .mk (by rw [X.out]; rfl) (by (repeat (first | (with_reducible exact Below.refl _ _) | (with_reducible assumption) | (with_reducible refine Later.out _ ?_) | (with_reducible refine bel_alloc ?_ _) | (with_reducible refine bel_drew ?_) | (with_reducible refine bel_drewN ?_ _) | (with_reducible refine bel_set ?_ ?_ _) | (with_reducible refine After.out _ ?_ ?_) | (dsimp only; omega) | omega | (simp only [World.size_alloc, World.size_setCell, World.size_drew]; omega))))
      · rw [szR_yes hs] at hC
        replace hC := Lib.hid hC
        have X := Lib.hid (show left - L.length - clmsSz (L.take (k + 1)) = p - clmSz L[k] by omega)
        have hp2 : 0 ≤ p - clmSz L[k] := by omega
        have hp3 : p - clmSz L[k] ≤ 1048576 := by omega
        clear hpe hsucc
        go_wp2_with fail
        with_reducible refine (hC.out _).mono ?_
        rintro e w' ⟨rfl, y1, rfl⟩
        have hsy1 := y1.bel.size
        (try simp only [World.size_alloc, World.size_setCell, World.size_drew] at hsy1)
        go_wp2_with fail
        go_roundw
        case rel => exact ⟨k + 1, by omega, by go_num, by rw [X.out], by rw [X.out]; exact hp2, ⟨_, by (repeat (first | (with_reducible exact Below.refl _ _) | (with_reducible assumption) | (with_reducible refine Later.out _ ?_) | (with_reducible refine bel_alloc ?_ _) | (with_reducible refine bel_drew ?_) | (with_reducible refine bel_drewN ?_ _) | (with_reducible refine bel_set ?_ ?_ _) | (with_reducible refine After.out _ ?_ ?_) | (dsimp only; omega) | omega | (simp only [World.size_alloc, World.size_setCell, World.size_drew]; omega)))⟩, rfl⟩
        case measure => first | (simp [intOf]; done) | (simp [intOf]; omega) | omega
    · obtain rfl : k = L.length := by omega
      rw [List.take_length] at hp ⊢
      have X := Lib.hid (show szR (listSz L) left = left - L.length - clmsSz L by rw [szR_yes (by unfold listSz; omega)]; unfold listSz; omega)
      go_wp2_with fail
      go_ret
      exact .mk (by rw [X.out]; rfl) (by (repeat (first | (with_reducible exact Below.refl _ _) | (with_reducible assumption) | (with_reducible refine Later.out _ ?_) | (with_reducible refine bel_alloc ?_ _) | (with_reducible refine bel_drew ?_) | (with_reducible refine bel_drewN ?_ _) | (with_reducible refine bel_set ?_ ?_ _) | (with_reducible refine After.out _ ?_ ?_) | (dsimp only; omega) | omega | (simp only [World.size_alloc, World.size_setCell, World.size_drew]; omega))))
theorem info_claim : (Tryz.prog.info? 63).map (fun i => (i.zero, i.size, i.bytes)) = some (some (.agg #[.string ByteArray.empty, .int .i64 0, .string ByteArray.empty, .string ByteArray.empty, .int .i64 0, .int .i64 0, .int .i64 0]), 7, 80) := by kernel_rfl
theorem info_claim' : ∃ i, Tryz.prog.info? 63 = some i ∧ i.zero = some (.agg #[.string ByteArray.empty, .int .i64 0, .string ByteArray.empty, .string ByteArray.empty, .int .i64 0, .int .i64 0, .int .i64 0]) ∧ i.size = 7 ∧ i.bytes = 80 := by
  have h := info_claim
  cases hi : Tryz.prog.info? 63 with
  | none => rw [hi] at h; cases h
  | some i =>
    rw [hi] at h
    simp only [Option.map_some, Option.some.injEq, Prod.mk.injEq] at h
    exact ⟨i, rfl, h.1, h.2.1, h.2.2⟩
theorem one_clm (L : List Clm) : ∀ u ∈ clmsCells L, u.oneCell' = true := by
  intro u hu
  simp only [clmsCells, List.mem_flatMap] at hu
  obtain ⟨c, _, hu⟩ := hu
  simp only [clmCells, List.mem_cons, List.not_mem_nil, or_false] at hu
  rcases hu with rfl | rfl | rfl | rfl | rfl | rfl | rfl <;> rfl
def zeroClm : Clm := ⟨ByteArray.empty, 0, ByteArray.empty, ByteArray.empty, 0, 0, 0⟩
/-- `k` claims are done, the others are as they were made. -/
def clmPart (L : List Clm) (k : Nat) : List Value := clmsCells (L.take k) ++ clmsCells (List.replicate (L.length - k) zeroClm)
theorem clmPart_full (L : List Clm) : clmPart L L.length = clmsCells L := by simp [clmPart, clmsCells]
theorem length_clmPart (L : List Clm) (k : Nat) (h : k ≤ L.length) : (clmPart L k).length = L.length * 7 := by
  simp only [clmPart, List.length_append, length_clmsCells, List.length_take, List.length_replicate]
  omega
theorem set_right {α : Type} {A B : List α} {m i : Nat} {x : α} (h : A.length = m) : (A ++ B).set (m + i) x = A ++ B.set i x := by
  rw [List.set_append_right _ _ (by omega), h, Nat.add_sub_cancel_left]
theorem clmPart_step (L : List Clm) (k : Nat) (h : k < L.length) :
    (((((((clmPart L k).set (k * 7) (.string L[k].src)).set (k * 7 + 1) (.int .i64 L[k].kind)).set (k * 7 + 2) (.string L[k].place)).set (k * 7 + 3) (.string L[k].val)).set (k * 7 + 4) (.int .i64 L[k].fr)).set (k * 7 + 5) (.int .i64 L[k].to)).set (k * 7 + 6) (.int .i64 L[k].wt) = clmPart L (k + 1) := by
  have e : L.length - k = (L.length - (k + 1)) + 1 := by omega
  have hl : (clmsCells (L.take k)).length = k * 7 := by rw [length_clmsCells, List.length_take, Nat.min_eq_left (by omega)]
  have h0 := fun (B : List Value) (x : Value) => set_right (A := clmsCells (L.take k)) (B := B) (i := 0) (x := x) hl
  simp only [Nat.add_zero] at h0
  unfold clmPart
  rw [e, List.replicate_succ, h0, set_right hl, set_right hl, set_right hl, set_right hl, set_right hl, set_right hl, List.take_succ_eq_append_getElem h, clmsCells_append, List.append_assoc]
  rfl
theorem clmPart_made (L : List Clm) : clmPart L 0 = (madeCells #[.string ByteArray.empty, .int .i64 0, .string ByteArray.empty, .string ByteArray.empty, .int .i64 0, .int .i64 0, .int .i64 0] (L.length * 7)).toList := by
  have e : clmPart L 0 = clmsCells (List.replicate L.length zeroClm) := by simp [clmPart, clmsCells]
  rw [e]
  apply List.ext_getElem?
  intro j
  by_cases hj : j < L.length * 7
  · have hd : j / 7 < (List.replicate L.length zeroClm).length := by rw [List.length_replicate]; omega
    have hm : j % 7 < 7 := Nat.mod_lt _ (by omega)
    have hz : ∀ i, i < 7 → (clmCells zeroClm)[i]? = some (#[Value.string ByteArray.empty, .int .i64 0, .string ByteArray.empty, .string ByteArray.empty, .int .i64 0, .int .i64 0, .int .i64 0][i]!) := by
      intro i hi
      rcases (show i = 0 ∨ i = 1 ∨ i = 2 ∨ i = 3 ∨ i = 4 ∨ i = 5 ∨ i = 6 by omega) with rfl | rfl | rfl | rfl | rfl | rfl | rfl <;> rfl
    have h1 := clms_get hd (i := j % 7) (v := #[Value.string ByteArray.empty, .int .i64 0, .string ByteArray.empty, .string ByteArray.empty, .int .i64 0, .int .i64 0, .int .i64 0][j % 7]!) (by rw [List.getElem_replicate]; exact hz _ hm)
    rw [show j / 7 * 7 + j % 7 = j by omega] at h1
    rw [h1]
    simp [madeCells, hj]
  · rw [List.getElem?_eq_none (by rw [length_clmsCells, List.length_replicate]; omega), List.getElem?_eq_none (by simp [madeCells]; omega)]
theorem run_make_k {P : Program} (t e : TypeId) (z : Value) (size bytes : Nat) (ht : P.underlying t = some (.slice e)) (hinfo : (P.info? e).map (fun i => (i.zero, i.size, i.bytes)) = some (some z, size, bytes))
    (kl kc : IntKind) (n : Nat) (hbytes : bytes * n ≤ 281474976710656) (h63 : n ≤ 9223372036854775807) (w : World) :
    (Instr.makeSlice t (.int kl (n : Int)) (.int kc (n : Int))).run P w = .ok (.slice (some ⟨w.heap.size, 0, none⟩) n n) (w.alloc (.cells (madeCells z.cells (n * size)) e)) := by
  obtain ⟨i, hi, hzz⟩ := Option.map_eq_some_iff.1 hinfo
  simp only [Prod.mk.injEq] at hzz
  obtain ⟨hz, hs, hb⟩ := hzz
  have hb' : (i.bytes : Int) * (n : Int) ≤ 281474976710656 := by
    have h : ((i.bytes * n : Nat) : Int) ≤ 281474976710656 := by rw [hb]; omega
    rwa [Int.natCast_mul] at h
  have hr := run_make (P := P) w t e i z ht hi hz kl kc n n (by omega) (Int.le_refl _) hb' (by omega)
  simp only [Int.toNat_natCast, hs] at hr
  exact hr
set_option maxRecDepth 4000 in
set_option maxHeartbeats 1000000 in
theorem toClaimS_any (L : List Clm) (a : Option Addr) (n c : Nat) (w : World) (hn : L.length = n) (hm : n ≤ 1048576) (hr : Row w a (clmsCells L)) :
    Calls Tryz.prog 17 #[.slice a n c] w (RetOwn w 63 7 n (clmsCells L) id) := by
  subst hn
  have hmk := run_make_k (P := Tryz.prog) 27 63 (.agg #[.string ByteArray.empty, .int .i64 0, .string ByteArray.empty, .string ByteArray.empty, .int .i64 0, .int .i64 0, .int .i64 0]) 7 80 Tryz.underlying27 info_claim .i64 .i64 L.length (by omega) (by omega)
  have hown0 := World.ownsRow_lit (base := w.heap.size) (e := 63) (size := 7) w (madeCells #[.string ByteArray.empty, .int .i64 0, .string ByteArray.empty, .string ByteArray.empty, .int .i64 0, .int .i64 0, .int .i64 0] (L.length * 7)) L.length (Nat.le_refl _) (by unfold maxLen; omega) (by simp [size_madeCells])
  rw [← clmPart_made] at hown0
  replace hr := Lib.hid hr
  have HO := Lib.hid hown0
  clear hown0
  go_enter Tryz.func17, Tryz.ntmps17
  go_wp2_with fail
  clear hmk
  go_loopw [4] (fun i wr => ∃ k : Nat, k ≤ L.length ∧ i = .int .i64 k ∧ wr.ownsRow w.heap.size 63 7 (.slice (some ⟨w.heap.size, 0, none⟩) L.length L.length) L.length (clmPart L k) ∧ ∃ z : Later w, wr = z.w) (fun i _ => L.length - (intOf i).toNat)
  case atStart => exact ⟨0, Nat.zero_le _, rfl, HO.out, ⟨_, bel_alloc (Below.refl _ _) _⟩, rfl⟩
  case round =>
    obtain ⟨k, hk, rfl, hown, z, rfl⟩ := hrel
    by_cases hlt : k < L.length
    · obtain ⟨b, o, rfl, hb, q0, q1, q2, q3, q4, q5, q6⟩ := hr.out.clm hlt
      have hws : w.heap.size < z.w.heap.size := (hown.lt w.heap.size rfl).2
      have hl := length_clmPart L k hk
      have hcell : ∀ i, i < 7 → ∃ u, z.w.cell? ⟨w.heap.size, k * 7 + i, none⟩ = some u := fun i hi => ⟨_, (hown.cellAt (k * 7 + i) (by omega)).trans (List.getElem?_eq_getElem (by omega))⟩
      obtain ⟨u0, r0⟩ := hcell 0 (by omega)
      obtain ⟨u1, r1⟩ := hcell 1 (by omega)
      obtain ⟨u2, r2⟩ := hcell 2 (by omega)
      obtain ⟨u3, r3⟩ := hcell 3 (by omega)
      obtain ⟨u4, r4⟩ := hcell 4 (by omega)
      obtain ⟨u5, r5⟩ := hcell 5 (by omega)
      obtain ⟨u6, r6⟩ := hcell 6 (by omega)
      rw [Nat.add_zero] at r0
      have f0 := hown.frozenAt (k * 7)
      have f1 := hown.frozenAt (k * 7 + 1)
      have f2 := hown.frozenAt (k * 7 + 2)
      have f3 := hown.frozenAt (k * 7 + 3)
      have f4 := hown.frozenAt (k * 7 + 4)
      have f5 := hown.frozenAt (k * 7 + 5)
      have f6 := hown.frozenAt (k * 7 + 6)
      have HOW := Lib.hid hown
      clear hown hcell
      go_wp2_with fail
      with_reducible refine (toClaim_any L[k] _).mono ?_
      rintro e w' ⟨rfl, y1, rfl⟩
      have hsy1 := y1.bel.size
      (try simp only [World.size_alloc, World.size_setCell, World.size_drew] at hsy1)
      go_wp2_with fail
      have hst := ((((((((own_bel HOW.out y1.bel).stored (k * 7) (.string L[k].src)).1.stored (k * 7 + 1) (.int .i64 L[k].kind)).1.stored (k * 7 + 2) (.string L[k].place)).1.stored (k * 7 + 3) (.string L[k].val)).1.stored (k * 7 + 4) (.int .i64 L[k].fr)).1.stored (k * 7 + 5) (.int .i64 L[k].to)).1.stored (k * 7 + 6) (.int .i64 L[k].wt)).1
      rw [clmPart_step L k hlt] at hst
      replace hst := Lib.hid hst
      go_roundw
      case rel =>
        refine ⟨k + 1, by omega, by go_num, hst.out, LaterC.mk ?_⟩
        (repeat (first | (with_reducible exact Below.refl _ _) | (with_reducible assumption) | (with_reducible refine Later.out _ ?_) | (with_reducible refine bel_alloc ?_ _) | (with_reducible refine bel_drew ?_) | (with_reducible refine bel_drewN ?_ _) | (with_reducible refine bel_set ?_ ?_ _) | (with_reducible refine After.out _ ?_ ?_) | (dsimp only; omega) | omega | (simp only [World.size_alloc, World.size_setCell, World.size_drew]; omega)))
      case measure => first | (simp [intOf]; done) | (simp [intOf]; omega) | omega
    · obtain rfl : k = L.length := by omega
      rw [clmPart_full] at hown
      replace hown := Lib.hid hown
      go_wp2_with fail
      go_ret
      exact .mk _ rfl hown.out z.bel
theorem eqSpan_same (f t : Int) (w : World) : Calls Tryz.prog 98 #[.agg #[.int .i64 f, .int .i64 t], .agg #[.int .i64 f, .int .i64 t]] w (Ret w (.bool true)) := by
  go_enter Tryz.func98, Tryz.ntmps98
  go_wp2_with fail
  go_ret
  exact .mk rfl (by (repeat (first | (with_reducible exact Below.refl _ _) | (with_reducible assumption) | (with_reducible refine Later.out _ ?_) | (with_reducible refine bel_alloc ?_ _) | (with_reducible refine bel_drew ?_) | (with_reducible refine bel_drewN ?_ _) | (with_reducible refine bel_set ?_ ?_ _) | (with_reducible refine After.out _ ?_ ?_) | (dsimp only; omega) | omega | (simp only [World.size_alloc, World.size_setCell, World.size_drew]; omega))))
set_option maxHeartbeats 1000000 in
theorem eqClaim_same (c : Clm) (w : World) : Calls Tryz.prog 59 #[clmV c, clmV c] w (Ret w (.bool true)) := by
  go_enter Tryz.func59, Tryz.ntmps59
  go_wp2_with fail
  with_reducible refine (eqSpan_same _ _ _).mono ?_
  rintro e w' ⟨rfl, y1, rfl⟩
  have hsy1 := y1.bel.size
  (try simp only [World.size_alloc, World.size_setCell, World.size_drew] at hsy1)
  go_wp2_with fail
  go_ret
  exact .mk rfl (by (repeat (first | (with_reducible exact Below.refl _ _) | (with_reducible assumption) | (with_reducible refine Later.out _ ?_) | (with_reducible refine bel_alloc ?_ _) | (with_reducible refine bel_drew ?_) | (with_reducible refine bel_drewN ?_ _) | (with_reducible refine bel_set ?_ ?_ _) | (with_reducible refine After.out _ ?_ ?_) | (dsimp only; omega) | omega | (simp only [World.size_alloc, World.size_setCell, World.size_drew]; omega))))
set_option maxHeartbeats 1000000 in
theorem eqClaimS_same (L : List Clm) (a a' : Option Addr) (n c n' c' : Nat) (w : World) (hn : L.length = n) (hn' : L.length = n') (hm : n ≤ 1048576) (hr : Row w a (clmsCells L)) (hr' : Row w a' (clmsCells L)) :
    Calls Tryz.prog 20 #[.slice a n c, .slice a' n' c'] w (Ret w (.bool true)) := by
  subst hn
  subst hn'
  replace hr := Lib.hid hr
  replace hr' := Lib.hid hr'
  go_enter Tryz.func20, Tryz.ntmps20
  go_wp2_with fail
  go_loopw [5] (fun i wr => ∃ k : Nat, k ≤ L.length ∧ i = .int .i64 k ∧ ∃ z : Later w, wr = z.w) (fun i _ => L.length - (intOf i).toNat)
  case atStart => exact ⟨0, Nat.zero_le _, rfl, ⟨_, Below.refl _ _⟩, rfl⟩
  case round =>
    obtain ⟨k, hk, rfl, z, rfl⟩ := hrel
    by_cases hlt : k < L.length
    · obtain ⟨b, o, rfl, hb, q0, q1, q2, q3, q4, q5, q6⟩ := hr.out.clm hlt
      obtain ⟨b', o', rfl, hb', s0, s1, s2, s3, s4, s5, s6⟩ := hr'.out.clm hlt
      have hi1 : (k : Int) < (L.length : Int) := by omega
      have hzz := z.bel.size
      go_wp2_with fail
      refine wp_region_plan [(0, true), (1, true), (2, true), (3, true), (4, true), (5, true), (6, true), (7, true), (8, false), (9, true)] (C := LaterC _) (by kernel_rfl) (by kernel_rfl) (by kernel_rfl) rfl (fun _ _ d _ _ h => by cases d <;> exact h) (LaterC.mk ((Below.refl _ _).drew)) ?_
      first | (refine plan_quiet nth0 rfl ?_; intro KP hKP; go_big_quiet_op; go_big_quiet_on) | (refine plan_skip_q nth0 rfl rfl ?_; simp only [Act.put, List.setIfInBounds_toArray, List.set_cons_zero, List.set_cons_succ])
      first | (refine plan_quiet nth1 rfl ?_; intro KP hKP; go_big_quiet_op; go_big_quiet_on) | (refine plan_skip_q nth1 rfl rfl ?_; simp only [Act.put, List.setIfInBounds_toArray, List.set_cons_zero, List.set_cons_succ])
      first | (refine plan_quiet nth2 rfl ?_; intro KP hKP; go_big_quiet_op; go_big_quiet_on) | (refine plan_skip_q nth2 rfl rfl ?_; simp only [Act.put, List.setIfInBounds_toArray, List.set_cons_zero, List.set_cons_succ])
      first | (refine plan_quiet nth3 rfl ?_; intro KP hKP; go_big_quiet_op; go_big_quiet_on) | (refine plan_skip_q nth3 rfl rfl ?_; simp only [Act.put, List.setIfInBounds_toArray, List.set_cons_zero, List.set_cons_succ])
      first | (refine plan_quiet nth4 rfl ?_; intro KP hKP; go_big_quiet_op; go_big_quiet_on) | (refine plan_skip_q nth4 rfl rfl ?_; simp only [Act.put, List.setIfInBounds_toArray, List.set_cons_zero, List.set_cons_succ])
      first | (refine plan_quiet nth5 rfl ?_; intro KP hKP; go_big_quiet_op; go_big_quiet_on) | (refine plan_skip_q nth5 rfl rfl ?_; simp only [Act.put, List.setIfInBounds_toArray, List.set_cons_zero, List.set_cons_succ])
      first | (refine plan_quiet nth6 rfl ?_; intro KP hKP; go_big_quiet_op; go_big_quiet_on) | (refine plan_skip_q nth6 rfl rfl ?_; simp only [Act.put, List.setIfInBounds_toArray, List.set_cons_zero, List.set_cons_succ])
      first | (refine plan_quiet nth7 rfl ?_; intro KP hKP; go_big_quiet_op; go_big_quiet_on) | (refine plan_skip_q nth7 rfl rfl ?_; simp only [Act.put, List.setIfInBounds_toArray, List.set_cons_zero, List.set_cons_succ])
      first | (refine plan_loud nth8 rfl ?_; intro KP hKP; go_wp2_with (first | (go_at_call 59; first | ((with_reducible refine (Calls.later (eqClaim_same L[k] _)).mono ?_); rintro e w' ⟨rfl, xl, rfl⟩; have hsz := xl.bel.size; (try simp only [World.size_alloc, World.size_setCell, World.size_drew] at hsz); (try have hz0 : w.heap.size < xl.w.heap.size := (by omega)); (try have hz1 : w.heap.size + 1 < xl.w.heap.size := (by omega)); (try have hz2 : w.heap.size + 1 + 1 < xl.w.heap.size := (by omega))) | ((with_reducible refine (eqClaim_same L[k] _).mono ?_); rintro e w' ⟨rfl, xl, rfl⟩; have hsz := xl.bel.size; (try simp only [World.size_alloc, World.size_setCell, World.size_drew] at hsz); (try have hz0 : w.heap.size < xl.w.heap.size := (by omega)); (try have hz1 : w.heap.size + 1 < xl.w.heap.size := (by omega)); (try have hz2 : w.heap.size + 1 + 1 < xl.w.heap.size := (by omega))))); refine hKP _ _ (LaterC.mk (by (repeat (first | (with_reducible exact Below.refl _ _) | (with_reducible assumption) | (with_reducible refine Later.out _ ?_) | (with_reducible refine bel_alloc ?_ _) | (with_reducible refine bel_drew ?_) | (with_reducible refine bel_drewN ?_ _) | (with_reducible refine bel_set ?_ ?_ _) | (with_reducible refine After.out _ ?_ ?_) | (dsimp only; omega) | omega | (simp only [World.size_alloc, World.size_setCell, World.size_drew]; omega))))) ?_; clear hKP KP) | (refine plan_skip nth8 rfl rfl (LaterC.mk (by (repeat (first | (with_reducible exact Below.refl _ _) | (with_reducible assumption) | (with_reducible refine Later.out _ ?_) | (with_reducible refine bel_alloc ?_ _) | (with_reducible refine bel_drew ?_) | (with_reducible refine bel_drewN ?_ _) | (with_reducible refine bel_set ?_ ?_ _) | (with_reducible refine After.out _ ?_ ?_) | (dsimp only; omega) | omega | (simp only [World.size_alloc, World.size_setCell, World.size_drew]; omega))))) ?_; simp only [Act.put, List.setIfInBounds_toArray, List.set_cons_zero, List.set_cons_succ])
      first | (refine plan_quiet nth9 rfl ?_; intro KP hKP; go_big_quiet_op; go_big_quiet_on) | (refine plan_skip_q nth9 rfl rfl ?_; simp only [Act.put, List.setIfInBounds_toArray, List.set_cons_zero, List.set_cons_succ])
      refine plan_nil ?_
      go_wp2_with fail
      go_roundw
      case rel => exact ⟨k + 1, by omega, by go_num, ⟨_, by (repeat (first | (with_reducible exact Below.refl _ _) | (with_reducible assumption) | (with_reducible refine Later.out _ ?_) | (with_reducible refine bel_alloc ?_ _) | (with_reducible refine bel_drew ?_) | (with_reducible refine bel_drewN ?_ _) | (with_reducible refine bel_set ?_ ?_ _) | (with_reducible refine After.out _ ?_ ?_) | (dsimp only; omega) | omega | (simp only [World.size_alloc, World.size_setCell, World.size_drew]; omega)))⟩, rfl⟩
      case measure => first | (simp [intOf]; done) | (simp [intOf]; omega) | omega
    · obtain rfl : k = L.length := by omega
      go_wp2_with fail
      go_ret
      exact .mk rfl (by (repeat (first | (with_reducible exact Below.refl _ _) | (with_reducible assumption) | (with_reducible refine Later.out _ ?_) | (with_reducible refine bel_alloc ?_ _) | (with_reducible refine bel_drew ?_) | (with_reducible refine bel_drewN ?_ _) | (with_reducible refine bel_set ?_ ?_ _) | (with_reducible refine After.out _ ?_ ?_) | (dsimp only; omega) | omega | (simp only [World.size_alloc, World.size_setCell, World.size_drew]; omega))))
end Go.Proofs.YtcpddgkloeklaaaGreatDoor

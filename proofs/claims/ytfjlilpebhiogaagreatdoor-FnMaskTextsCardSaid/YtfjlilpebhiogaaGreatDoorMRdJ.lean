import Derived.Test.YtfjlilpebhiogaaGreatDoorMRdI
import Derived.Test.YtfjlilpebhiogaaGreatDoorMkM
import Derived.Test.YtfjlilpebhiogaaGreatDoorOper
import Derived.Test.YtfjlilpebhiogaaGreatDoorClone
import Derived.Deep.AppendLies
/- ReadMask, the program's way: the walk. -/
set_option linter.unusedSimpArgs false
set_option linter.unusedVariables false
namespace Go.Proofs.YtfjlilpebhiogaaGreatDoor
open Go.RowKit
/-- The cells of the first `k` words. -/
def cellsK (V : List ByteArray) (k : Nat) : List Bool := ((V.take k).map wordC).flatten
theorem cellsK_zero (V : List ByteArray) : cellsK V 0 = [] := by simp [cellsK]
theorem cellsK_succ {V : List ByteArray} {k : Nat} (h : k < V.length) : cellsK V (k + 1) = cellsK V k ++ wordC V[k] := by
  unfold cellsK
  rw [List.take_succ_eq_append_getElem h, List.map_append, List.flatten_append]
  simp
theorem cellsK_len {V : List ByteArray} {W : Nat} : ∀ k, k ≤ V.length → (∀ (j : Nat) (h : j < V.length), j < k → V[j].size = W) → (cellsK V k).length = k * W
  | 0, _, _ => by simp [cellsK]
  | k + 1, h, hV => by
    rw [cellsK_succ (by omega), List.length_append, cellsK_len k (by omega) fun j hj hk => hV j hj (by omega), wordC_len, hV k (by omega) (by omega), Nat.succ_mul]
theorem wordC_take {s : ByteArray} {m : Nat} (h : m < s.size) : (wordC s).take (m + 1) = (wordC s).take m ++ [s[m] == 35] := by
  have h2 : m < (wordC s).length := by rw [wordC_len]; exact h
  rw [List.take_succ_eq_append_getElem h2]
  congr 2
  simp only [wordC, List.getElem_map]
  rfl
theorem cellsK_all (R : List ByteArray) : cellsK R.reverse R.reverse.length = cellsR R := by
  unfold cellsK cellsR
  rw [List.take_length]
theorem boolCells_snoc (l : List Bool) (b : Bool) : boolCells (l ++ [b]) = boolCells l ++ [.bool b] := by simp [boolCells]
set_option maxHeartbeats 400000 in
theorem lengthStr_any (a : Option Addr) (n c : Nat) (w : World) : Calls Tryz.prog 50 #[.slice a n c] w (Ret w (.int .i64 n)) := by
  go_enter Tryz.func50, Tryz.ntmps50
  go_wp2
  go_ret
  exact .mk rfl (Below.refl _ _)
theorem grown_far {w w' : World} {base e n c B : Nat} {a : Option Addr} {xs : List Value} (hg : w.grownBy w' (Value.slice a n c).ownBlock) (ho : w.ownsRow base e 1 (.slice a n c) n xs) (hB : B < base) (hb : base ≤ w.heap.size) (i : Nat) : w'.cell? ⟨B, i, none⟩ = w.cell? ⟨B, i, none⟩ ∧ w'.frozen? ⟨B, i, none⟩ = w.frozen? ⟨B, i, none⟩ := by
  have hne : some B ≠ (Value.slice a n c).ownBlock := fun h => by
    have := (ho.lt B h.symm).1
    omega
  exact ⟨hg.cell_far _ (by simp only; omega) hne, hg.frozen_far _ (by simp only; omega) hne⟩
theorem btw_grown {w w' a : World} {e n c lo hi : Nat} {ad : Option Addr} {xs : List Value} (hg : w.grownBy w' (Value.slice ad n c).ownBlock) (ho : w.ownsRow a.heap.size e 1 (.slice ad n c) n xs) (h : Between lo hi a w) : Between lo hi a w' :=
  ⟨hg.os.trans h.os, hg.tape.trans h.tape, hg.output.trans h.output, Nat.le_trans h.size hg.size, fun k hk hor => (hg.block k (Nat.lt_of_lt_of_le hk h.size) fun e => by
    have := (ho.lt k e.symm).1
    omega).trans (h.block k hk hor)⟩
theorem str_at {w : World} {b o : Nat} {L : List ByteArray} (h : Row w (some ⟨b, o, none⟩) (strCells L)) {k : Nat} (hk : k < L.length) : w.cell? ⟨b, o + k, none⟩ = some (.string L[k]) := by
  obtain ⟨b', o', e, hc⟩ := h k _ (strCells_get hk)
  cases e
  exact hc
theorem pieces_cons (s : ByteArray) : ∃ w0 R, piecesS 32 s = w0 :: R := by
  cases h : piecesS 32 s with
  | nil => exact absurd (List.map_eq_nil_iff.1 h) (splitL_ne 32 _)
  | cons a b => exact ⟨a, b, rfl⟩
/-- What the rows of a text must be. -/
def goodW (V : List ByteArray) (j : Nat) : Prop := ∀ h : j < V.length, V[j].size = (V.getD 0 ByteArray.empty).size ∧ V[j].data.toList.all hashB = true
theorem no_point {s w0 : ByteArray} {R : List ByteArray} (hp : piecesS 32 s = w0 :: R) (h : ptI w0 = false) : ∀ x y Wn Hn l, ¬ MT s x y Wn Hn l := fun x y Wn Hn l hm => by
  obtain ⟨a1, a2, a3, a4, a5, a6, a7, a8, a9⟩ := hm.parts hp
  rw [a1, (ptI_of a9).1] at h
  cases h
theorem no_rows {s w0 : ByteArray} {R : List ByteArray} (hp : piecesS 32 s = w0 :: R) (h : R.length = 0) : ∀ x y Wn Hn l, ¬ MT s x y Wn Hn l := fun x y Wn Hn l hm => by
  obtain ⟨a1, a2, a3, a4, a5, a6, a7, a8, a9⟩ := hm.parts hp
  omega
theorem rev_first {V : List ByteArray} (h : 0 < V.length) : V.getD 0 ByteArray.empty = V[0] := by simp [List.getD_eq_getElem?_getD, h]
theorem no_word {s w0 : ByteArray} {R : List ByteArray} {j : Nat} (hp : piecesS 32 s = w0 :: R) (hj : j < R.reverse.length) (h : ¬ goodW R.reverse j) : ∀ x y Wn Hn l, ¬ MT s x y Wn Hn l := fun x y Wn Hn l hm => by
  obtain ⟨a1, a2, a3, a4, a5, a6, a7, a8, a9⟩ := hm.parts hp
  apply h
  intro hj
  have h1 := a3 _ (List.mem_reverse.1 (List.getElem_mem hj))
  have h0 : 0 < R.reverse.length := by omega
  have h2 := a3 _ (List.mem_reverse.1 (List.getElem_mem h0))
  rw [rev_first h0]
  exact ⟨h1.1.trans h2.1.symm, h1.2⟩
theorem no_mask {s w0 : ByteArray} {R : List ByteArray} (hp : piecesS 32 s = w0 :: R)
    (h : isMaskB (numV (colA w0)) (numV (colZ w0)) (R.reverse.getD 0 ByteArray.empty).size R.length (cellsR R).length = false) : ∀ x y Wn Hn l, ¬ MT s x y Wn Hn l := fun x y Wn Hn l hm => by
  obtain ⟨a1, a2, a3, a4, a5, a6, a7, a8, a9⟩ := hm.parts hp
  have h0 : 0 < R.reverse.length := by simp; omega
  have h2 := a3 _ (List.mem_reverse.1 (List.getElem_mem h0))
  have p := ptI_of a9
  rw [rev_first h0, h2.1, a2, a4, a1, p.2.1, p.2.2, hm.1] at h
  cases h
theorem yes_mask {s w0 : ByteArray} {R : List ByteArray} (hp : piecesS 32 s = w0 :: R) (h0 : ptI w0 = true) (hg : ∀ j, j < R.reverse.length → goodW R.reverse j)
    (hm : isMaskB (numV (colA w0)) (numV (colZ w0)) (R.reverse.getD 0 ByteArray.empty).size R.length (cellsR R).length = true) : MT s (numV (colA w0)) (numV (colZ w0)) (R.reverse.getD 0 ByteArray.empty).size R.length (cellsR R) := by
  refine MT.make hp h0 (fun t ht => ?_) hm
  obtain ⟨j, hj, rfl⟩ := List.getElem_of_mem (List.mem_reverse.2 ht)
  exact hg j hj hj
set_option maxRecDepth 8000 in
set_option maxHeartbeats 16000000 in
theorem readMask_impl (s : ByteArray) (w : World) (hs : s.size ≤ 1048576) (hE : Env w) (X Y W H code : Int) (L : List Bool) (hR : RdM s X Y W H code L) :
    Calls Tryz.prog 17 #[.string s] w (RetOwn w 4 1 L.length (boolCells L) fun v => .tuple #[.agg #[.int .i64 X, .int .i64 Y, .int .i64 W, .int .i64 H, v], .int .i64 code]) := by
  have C0 : ∀ w, Max w → Calls Tryz.prog 29 #[.string s, .string ⟨#[32]⟩] w _ := fun w hx => split_any 32 s w hx hs
  have hle := piecesS_length_le 32 s
  have hsz : ∀ t ∈ piecesS 32 s, t.size ≤ 1048576 := fun t h => Nat.le_trans (piecesS_size h) hs
  obtain ⟨w0, R, hp⟩ := pieces_cons s
  simp only [hp] at C0 hsz hle
  replace C0 : ∀ w, Max w → Calls Tryz.prog 29 #[.string s, .string ⟨#[32]⟩] w (RetOwn w 9 1 (R.length + 1) (strCells (w0 :: R)) id) := C0
  have hle : R.length ≤ 1048576 := by simp at hle; omega
  have hz0 := hsz w0 (by simp)
  have CP := Lib.hid (fun w hE => readPoint_any w0 w hz0 hE)
  have hsR : ∀ (j : Nat) (h : j < R.reverse.length), R.reverse[j].size ≤ 1048576 := fun j h => hsz _ (by simp [List.mem_reverse.1 (List.getElem_mem h)])
  have N0 := fun h => hR.no (no_point hp h)
  have N1 := fun h => hR.no (no_rows hp h)
  have N2 := fun j hj h => hR.no (no_word (j := j) hp hj h)
  have N3 := fun h => hR.no (no_mask hp h)
  have YM := fun h0 hg hm => hR.yes (yes_mask hp h0 hg hm)
  have hlr : R.reverse.length = R.length := List.length_reverse
  have hcr := cellsK_all R
  obtain ⟨X0, hX0⟩ : ∃ v, numV (colA w0) = v := ⟨_, rfl⟩
  obtain ⟨Y0, hY0⟩ : ∃ v, numV (colZ w0) = v := ⟨_, rfl⟩
  obtain ⟨K0, hK0⟩ : ∃ v, ptI w0 = v := ⟨_, rfl⟩
  rw [hX0, hY0, hK0] at CP
  rw [hX0, hY0] at N3
  rw [hX0, hY0, hK0] at YM
  rw [hK0] at N0
  have hgr := fun (g o : Nat) (c : Nat) w hq hf hg => rev_any R g o c w hle hq hf hg
  obtain ⟨CL, hCL⟩ : ∃ l, cellsR R = l := ⟨_, rfl⟩
  rw [hCL] at N3 YM hcr
  obtain ⟨V, hV⟩ : ∃ V, R.reverse = V := ⟨_, rfl⟩
  rw [hV] at hsR N2 N3 YM hlr hcr hgr
  have hYI := fun h => YM h
  replace C0 := Lib.hid C0
  replace hE := Lib.hid hE
  replace N0 := Lib.hid N0
  replace N1 := Lib.hid N1
  replace N2 := Lib.hid N2
  replace N3 := Lib.hid N3
  replace YM := Lib.hid YM
  replace hsR := Lib.hid hsR
  replace hgr := Lib.hid hgr
  replace hcr := Lib.hid hcr
  clear hR hsz hp hX0 hY0 hK0 hCL hV hz0 hYI
  obtain ⟨ii, j1, j2, j3, j4⟩ := info_bool'
  have Jii := Lib.hid (And.intro j1 (And.intro j2 (And.intro j3 j4)))
  clear j1 j2 j3 j4
  cases K0
  · obtain ⟨rfl, rfl, rfl, rfl, rfl, rfl⟩ := N0.out rfl
    go_enter Tryz.func17, Tryz.ntmps17
    go_wp2_with fail
    with_reducible refine (C0.out _ (hE.out.mx.bel (by (repeat (first | (with_reducible exact Below.refl _ _) | (with_reducible assumption) | (with_reducible refine Later.out _ ?_) | (with_reducible refine bel_alloc ?_ _) | (with_reducible refine bel_drew ?_) | (with_reducible refine bel_drewN ?_ _) | (with_reducible refine bel_set ?_ ?_ _) | (with_reducible refine After.out _ ?_ ?_) | (dsimp only; omega) | omega | (simp only [World.size_alloc, World.size_setCell, World.size_drew]; omega)))))).mono ?_
    rintro e w' ⟨a1, c1, rfl, hown, y1, rfl⟩
    have hsy1 := y1.bel.size
    (try simp only [World.size_alloc, World.size_setCell, World.size_drew] at hsy1)
    have HO := Lib.hid (Owns.of hown)
    clear hown
    obtain ⟨g, rfl, g1, g2, -, -⟩ := HO.out.at_ (j := 0) (by omega)
    have q0 : y1.w.cell? ⟨g, 0, none⟩ = some (.string w0) := str_at HO.out.row (k := 0) (by simp)
    go_wp2_with fail
    with_reducible refine (CP.out _ (hE.out.bel (by (repeat (first | (with_reducible exact Below.refl _ _) | (with_reducible assumption) | (with_reducible refine Later.out _ ?_) | (with_reducible refine bel_alloc ?_ _) | (with_reducible refine bel_drew ?_) | (with_reducible refine bel_drewN ?_ _) | (with_reducible refine bel_set ?_ ?_ _) | (with_reducible refine After.out _ ?_ ?_) | (dsimp only; omega) | omega | (simp only [World.size_alloc, World.size_setCell, World.size_drew]; omega)))))).mono ?_
    rintro e w' ⟨rfl, y2, rfl⟩
    have hsy2 := y2.bel.size
    (try simp only [World.size_alloc, World.size_setCell, World.size_drew] at hsy2)
    go_wp2_with fail
    refine bodyPost_ret (by simp [results, Tryz.results17, go_sem, ↓IntWalk.iteOmega, *]; try rfl) rfl ?_
    exact RetOwn.mk (.slice none 0 0) rfl (World.ownsRow_nil _ _ _ _) (by (repeat (first | (with_reducible exact Below.refl _ _) | (with_reducible assumption) | (with_reducible refine Later.out _ ?_) | (with_reducible refine bel_alloc ?_ _) | (with_reducible refine bel_drew ?_) | (with_reducible refine bel_drewN ?_ _) | (with_reducible refine bel_set ?_ ?_ _) | (with_reducible refine After.out _ ?_ ?_) | (dsimp only; omega) | omega | (simp only [World.size_alloc, World.size_setCell, World.size_drew]; omega))))
  by_cases hR0 : R.length = 0
  · obtain ⟨rfl, rfl, rfl, rfl, rfl, rfl⟩ := N1.out hR0
    go_enter Tryz.func17, Tryz.ntmps17
    go_wp2_with fail
    with_reducible refine (C0.out _ (hE.out.mx.bel (by (repeat (first | (with_reducible exact Below.refl _ _) | (with_reducible assumption) | (with_reducible refine Later.out _ ?_) | (with_reducible refine bel_alloc ?_ _) | (with_reducible refine bel_drew ?_) | (with_reducible refine bel_drewN ?_ _) | (with_reducible refine bel_set ?_ ?_ _) | (with_reducible refine After.out _ ?_ ?_) | (dsimp only; omega) | omega | (simp only [World.size_alloc, World.size_setCell, World.size_drew]; omega)))))).mono ?_
    rintro e w' ⟨a1, c1, rfl, hown, y1, rfl⟩
    have hsy1 := y1.bel.size
    (try simp only [World.size_alloc, World.size_setCell, World.size_drew] at hsy1)
    have HO := Lib.hid (Owns.of hown)
    clear hown
    obtain ⟨g, rfl, g1, g2, -, -⟩ := HO.out.at_ (j := 0) (by omega)
    have q0 : y1.w.cell? ⟨g, 0, none⟩ = some (.string w0) := str_at HO.out.row (k := 0) (by simp)
    go_wp2_with fail
    with_reducible refine (CP.out _ (hE.out.bel (by (repeat (first | (with_reducible exact Below.refl _ _) | (with_reducible assumption) | (with_reducible refine Later.out _ ?_) | (with_reducible refine bel_alloc ?_ _) | (with_reducible refine bel_drew ?_) | (with_reducible refine bel_drewN ?_ _) | (with_reducible refine bel_set ?_ ?_ _) | (with_reducible refine After.out _ ?_ ?_) | (dsimp only; omega) | omega | (simp only [World.size_alloc, World.size_setCell, World.size_drew]; omega)))))).mono ?_
    rintro e w' ⟨rfl, y2, rfl⟩
    have hsy2 := y2.bel.size
    (try simp only [World.size_alloc, World.size_setCell, World.size_drew] at hsy2)
    go_wp2_with fail
    refine bodyPost_ret (by simp [results, Tryz.results17, go_sem, ↓IntWalk.iteOmega, *]; try rfl) rfl ?_
    exact RetOwn.mk (.slice none 0 0) rfl (World.ownsRow_nil _ _ _ _) (by (repeat (first | (with_reducible exact Below.refl _ _) | (with_reducible assumption) | (with_reducible refine Later.out _ ?_) | (with_reducible refine bel_alloc ?_ _) | (with_reducible refine bel_drew ?_) | (with_reducible refine bel_drewN ?_ _) | (with_reducible refine bel_set ?_ ?_ _) | (with_reducible refine After.out _ ?_ ?_) | (dsimp only; omega) | omega | (simp only [World.size_alloc, World.size_setCell, World.size_drew]; omega))))
  go_enter Tryz.func17, Tryz.ntmps17
  go_wp2_with fail
  with_reducible refine (C0.out _ (hE.out.mx.bel (by (repeat (first | (with_reducible exact Below.refl _ _) | (with_reducible assumption) | (with_reducible refine Later.out _ ?_) | (with_reducible refine bel_alloc ?_ _) | (with_reducible refine bel_drew ?_) | (with_reducible refine bel_drewN ?_ _) | (with_reducible refine bel_set ?_ ?_ _) | (with_reducible refine After.out _ ?_ ?_) | (dsimp only; omega) | omega | (simp only [World.size_alloc, World.size_setCell, World.size_drew]; omega)))))).mono ?_
  rintro e w' ⟨a1, c1, rfl, hown, y1, rfl⟩
  have hsy1 := y1.bel.size
  (try simp only [World.size_alloc, World.size_setCell, World.size_drew] at hsy1)
  have HO := Lib.hid (Owns.of hown)
  clear hown
  obtain ⟨g, rfl, g1, g2, -, -⟩ := HO.out.at_ (j := 0) (by omega)
  have q0 : y1.w.cell? ⟨g, 0, none⟩ = some (.string w0) := str_at HO.out.row (k := 0) (by simp)
  have hc1 : R.length + 1 ≤ c1 := own_cap HO.out.own
  have hq1 : ∀ (j : Nat) (h : j < R.length), y1.w.cell? ⟨g, 1 + j, none⟩ = some (.string R[j]) := fun j h => by
    have := str_at HO.out.row (k := j + 1) (by simp; omega)
    rw [show 1 + j = 0 + (j + 1) by omega]
    simpa using this
  have hf1 : ∀ j, j < R.length → y1.w.frozen? ⟨g, 1 + j, none⟩ = false := fun j h => HO.out.own.frozenAt (1 + j)
  replace hq1 := Lib.hid hq1
  replace hf1 := Lib.hid hf1
  go_wp2_with fail
  with_reducible refine (CP.out _ (hE.out.bel (by (repeat (first | (with_reducible exact Below.refl _ _) | (with_reducible assumption) | (with_reducible refine Later.out _ ?_) | (with_reducible refine bel_alloc ?_ _) | (with_reducible refine bel_drew ?_) | (with_reducible refine bel_drewN ?_ _) | (with_reducible refine bel_set ?_ ?_ _) | (with_reducible refine After.out _ ?_ ?_) | (dsimp only; omega) | omega | (simp only [World.size_alloc, World.size_setCell, World.size_drew]; omega)))))).mono ?_
  rintro e w' ⟨rfl, y2, rfl⟩
  have hsy2 := y2.bel.size
  (try simp only [World.size_alloc, World.size_setCell, World.size_drew] at hsy2)
  go_wp2_with fail
  have hs2 : y2.w.heap.size < (y2.w.alloc (.cells #[.int .i64 X0, .int .i64 Y0] 36)).heap.size := by simp
  with_reducible refine (hgr.out g 1 _ _ (fun j h => ?qa) (fun j h => ?qb) (by (try simp only [World.size_alloc]); omega)).mono ?_
  case qa =>
    refine Eq.trans ?_ (hq1.out j h)
    exact Below.cell (B := y1.w.heap.size) (by (repeat (first | (with_reducible exact Below.refl _ _) | (with_reducible assumption) | (with_reducible refine Later.out _ ?_) | (with_reducible refine bel_alloc ?_ _) | (with_reducible refine bel_drew ?_) | (with_reducible refine bel_drewN ?_ _) | (with_reducible refine bel_set ?_ ?_ _) | (with_reducible refine After.out _ ?_ ?_) | (dsimp only; omega) | omega | (simp only [World.size_alloc, World.size_setCell, World.size_drew]; omega)))) (by omega)
  case qb =>
    refine Eq.trans ?_ (hf1.out j h)
    exact Below.frozen (B := y1.w.heap.size) (by (repeat (first | (with_reducible exact Below.refl _ _) | (with_reducible assumption) | (with_reducible refine Later.out _ ?_) | (with_reducible refine bel_alloc ?_ _) | (with_reducible refine bel_drew ?_) | (with_reducible refine bel_drewN ?_ _) | (with_reducible refine bel_set ?_ ?_ _) | (with_reducible refine After.out _ ?_ ?_) | (dsimp only; omega) | omega | (simp only [World.size_alloc, World.size_setCell, World.size_drew]; omega)))) (by omega)
  rintro e w' ⟨rfl, z3, rfl, hq3⟩
  have hs3 := z3.btw.size
  (try simp only [World.size_alloc] at hs3)
  have u1 : w.heap.size < y1.w.heap.size := by omega
  have u2 : w.heap.size < y2.w.heap.size := by omega
  have u3 : w.heap.size < z3.w.heap.size := by omega
  have u4 : y2.w.heap.size < z3.w.heap.size := by omega
  have hgz : g < z3.w.heap.size := by omega
  have hgw : w.heap.size < g := by (try simp only [World.size_alloc] at g1); omega
  have r0 : z3.w.cell? ⟨w.heap.size, 0, none⟩ = some (.int .i64 0) := by simp [go_sem, ↓IntWalk.iteOmega, u1, u2, u3, u4, hgz, hgw]
  have r1 : z3.w.cell? ⟨w.heap.size, 1, none⟩ = some (.int .i64 0) := by simp [go_sem, ↓IntWalk.iteOmega, u1, u2, u3, u4, hgz, hgw]
  have r2 : z3.w.cell? ⟨w.heap.size, 2, none⟩ = some (.int .i64 0) := by simp [go_sem, ↓IntWalk.iteOmega, u1, u2, u3, u4, hgz, hgw]
  have r3 : z3.w.cell? ⟨w.heap.size, 3, none⟩ = some (.int .i64 0) := by simp [go_sem, ↓IntWalk.iteOmega, u1, u2, u3, u4, hgz, hgw]
  have r4 : z3.w.cell? ⟨w.heap.size, 4, none⟩ = some (.slice none 0 0) := by simp [go_sem, ↓IntWalk.iteOmega, u1, u2, u3, u4, hgz, hgw]
  have f0 : z3.w.frozen? ⟨w.heap.size, 0, none⟩ = false := by simp [go_sem, ↓IntWalk.iteOmega, u1, u2, u3, u4, hgz, hgw]
  have f1 : z3.w.frozen? ⟨w.heap.size, 1, none⟩ = false := by simp [go_sem, ↓IntWalk.iteOmega, u1, u2, u3, u4, hgz, hgw]
  have f2 : z3.w.frozen? ⟨w.heap.size, 2, none⟩ = false := by simp [go_sem, ↓IntWalk.iteOmega, u1, u2, u3, u4, hgz, hgw]
  have f3 : z3.w.frozen? ⟨w.heap.size, 3, none⟩ = false := by simp [go_sem, ↓IntWalk.iteOmega, u1, u2, u3, u4, hgz, hgw]
  have f4 : z3.w.frozen? ⟨w.heap.size, 4, none⟩ = false := by simp [go_sem, ↓IntWalk.iteOmega, u1, u2, u3, u4, hgz, hgw]
  replace r0 := Lib.hid r0
  replace f0 := Lib.hid f0
  replace r1 := Lib.hid r1
  replace f1 := Lib.hid f1
  replace r2 := Lib.hid r2
  replace f2 := Lib.hid f2
  replace r3 := Lib.hid r3
  replace f3 := Lib.hid f3
  replace r4 := Lib.hid r4
  replace f4 := Lib.hid f4
  replace hq3 := Lib.hid hq3
  have hfirst : z3.w.cell? ⟨g, 1, none⟩ = some (.string (V.getD 0 ByteArray.empty)) := by
    rw [rev_first (by omega)]
    exact hq3.out 0 (by omega)
  have hbw3 : Below w.heap.size w z3.w := z3.out (by (repeat (first | (with_reducible exact Below.refl _ _) | (with_reducible assumption) | (with_reducible refine Later.out _ ?_) | (with_reducible refine bel_alloc ?_ _) | (with_reducible refine bel_drew ?_) | (with_reducible refine bel_drewN ?_ _) | (with_reducible refine bel_set ?_ ?_ _) | (with_reducible refine After.out _ ?_ ?_) | (dsimp only; omega) | omega | (simp only [World.size_alloc, World.size_setCell, World.size_drew]; omega)))) (by omega)
  replace hbw3 := Lib.hid hbw3
  obtain ⟨F, hF⟩ : ∃ F, V.getD 0 ByteArray.empty = F := ⟨_, rfl⟩
  rw [hF] at hfirst N3 YM
  replace hF := Lib.hid hF
  clear q0
  go_upto_region 7 with fail
  go_cut [8] from 33 to 40 (fun t8 wx => ∃ B, t8 = .pointer (some ⟨B, 0, none⟩) ∧ z3.w.heap.size ≤ B ∧ MaskAt wx B X0 Y0 F.size R.length (.slice none 0 0) ∧ Below z3.w.heap.size z3.w wx ∧ wx.frozen? ⟨B, 4, none⟩ = false)
  case first =>
    refine wp_region_inv (LaterC z3.w.drew) (EvM (fun v => v = .slice none 0 0) X0 Y0 F.size R.length) (fun i v w' => match i with
      | 0 => v = .agg #[.int .i64 X0, .int .i64 Y0]
      | 1 | 5 => v = .slice (some ⟨g, 1, none⟩) R.length (c1 - 1)
      | 2 => v = .pointer (some ⟨g, 1, none⟩)
      | 3 => v = .string F
      | 4 => v = .int .i64 F.size
      | 6 => v = .int .i64 R.length
      | 7 => v = .agg #[.int .i64 X0, .int .i64 Y0, .int .i64 F.size, .int .i64 R.length, .slice none 0 0]
      | 8 => ∃ b, v = .pointer (some ⟨b, 0, none⟩) ∧ z3.w.heap.size ≤ b ∧ RawM w' b
      | _ => True) 9 8 (fun v w' => ∃ b, v = .pointer (some ⟨b, 0, none⟩) ∧ z3.w.heap.size ≤ b ∧ GoodM w' b X0 Y0 F.size R.length (.slice none 0 0)) (by kernel_rfl) (by kernel_rfl) (by kernel_rfl) (by kernel_rfl) (LaterC.mk (Below.refl _ _)) ?hst ?hstP ⟨?op0, ?op1, ?op2, ?op3, ?op4, ?op5, ?op6, ?op7, ?op8, ?op9, trivial⟩ ?hend
    case op0 =>
      rintro xv _ ⟨y, rfl⟩ hd
      (try simp only [List.mem_toArray, List.forall_mem_cons, List.not_mem_nil, false_imp_iff, implies_true, and_true, Region.binds, forall_const] at hd)
      have hsy := y.bel.size
      (try simp only [World.size_drew] at hsy)
      simp only [putAll, Act.put, List.setIfInBounds_toArray, List.set_cons_zero, List.set_cons_succ, Nat.zero_add, Nat.reduceAdd]
      refine op_loud (by rfl) (by rfl) ?_
      intro KP hKP
      replace hKP := Lib.hid hKP
      go_wp2_with fail
      refine hKP.out _ _ ⟨_, rfl, ⟨y, rfl⟩, EvM.refl _, rfl, (fun h => absurd h (by decide))⟩
    case op1 =>
      rintro xv _ ⟨y, rfl⟩ hd
      (try simp only [List.mem_toArray, List.forall_mem_cons, List.not_mem_nil, false_imp_iff, implies_true, and_true, Region.binds, forall_const] at hd)
      have hsy := y.bel.size
      (try simp only [World.size_drew] at hsy)
      simp only [putAll, Act.put, List.setIfInBounds_toArray, List.set_cons_zero, List.set_cons_succ, Nat.zero_add, Nat.reduceAdd]
      refine op_loud (by rfl) (by rfl) ?_
      intro KP hKP
      replace hKP := Lib.hid hKP
      go_wp2_with fail
      refine hKP.out _ _ ⟨_, rfl, ⟨y, rfl⟩, EvM.refl _, rfl, (fun h => absurd h (by decide))⟩
    case op2 =>
      rintro xv _ ⟨y, rfl⟩ hd
      (try simp only [List.mem_toArray, List.forall_mem_cons, List.not_mem_nil, false_imp_iff, implies_true, and_true, Region.binds, forall_const] at hd)
      have hsy := y.bel.size
      (try simp only [World.size_drew] at hsy)
      simp only [putAll, Act.put, List.setIfInBounds_toArray, List.set_cons_zero, List.set_cons_succ, Nat.zero_add, Nat.reduceAdd, hd]
      refine op_loud (by rfl) (by rfl) ?_
      intro KP hKP
      replace hKP := Lib.hid hKP
      go_wp2_with fail
      refine hKP.out _ _ ⟨_, rfl, ⟨y, rfl⟩, EvM.refl _, rfl, (fun h => absurd h (by decide))⟩
    case op3 =>
      rintro xv _ ⟨y, rfl⟩ hd
      (try simp only [List.mem_toArray, List.forall_mem_cons, List.not_mem_nil, false_imp_iff, implies_true, and_true, Region.binds, forall_const] at hd)
      have hsy := y.bel.size
      (try simp only [World.size_drew] at hsy)
      simp only [putAll, Act.put, List.setIfInBounds_toArray, List.set_cons_zero, List.set_cons_succ, Nat.zero_add, Nat.reduceAdd, hd]
      refine op_loud (by rfl) (by rfl) ?_
      intro KP hKP
      replace hKP := Lib.hid hKP
      go_wp2_with fail
      refine hKP.out _ _ ⟨_, rfl, ⟨y, rfl⟩, EvM.refl _, rfl, (fun h => absurd h (by decide))⟩
    case op4 =>
      rintro xv _ ⟨y, rfl⟩ hd
      (try simp only [List.mem_toArray, List.forall_mem_cons, List.not_mem_nil, false_imp_iff, implies_true, and_true, Region.binds, forall_const] at hd)
      have hsy := y.bel.size
      (try simp only [World.size_drew] at hsy)
      simp only [putAll, Act.put, List.setIfInBounds_toArray, List.set_cons_zero, List.set_cons_succ, Nat.zero_add, Nat.reduceAdd, hd]
      refine op_loud (by rfl) (by rfl) ?_
      intro KP hKP
      replace hKP := Lib.hid hKP
      go_wp2_with fail
      refine hKP.out _ _ ⟨_, rfl, ⟨y, rfl⟩, EvM.refl _, rfl, (fun h => absurd h (by decide))⟩
    case op5 =>
      rintro xv _ ⟨y, rfl⟩ hd
      (try simp only [List.mem_toArray, List.forall_mem_cons, List.not_mem_nil, false_imp_iff, implies_true, and_true, Region.binds, forall_const] at hd)
      have hsy := y.bel.size
      (try simp only [World.size_drew] at hsy)
      simp only [putAll, Act.put, List.setIfInBounds_toArray, List.set_cons_zero, List.set_cons_succ, Nat.zero_add, Nat.reduceAdd]
      refine op_loud (by rfl) (by rfl) ?_
      intro KP hKP
      replace hKP := Lib.hid hKP
      go_wp2_with fail
      refine hKP.out _ _ ⟨_, rfl, ⟨y, rfl⟩, EvM.refl _, rfl, (fun h => absurd h (by decide))⟩
    case op6 =>
      rintro xv _ ⟨y, rfl⟩ hd
      (try simp only [List.mem_toArray, List.forall_mem_cons, List.not_mem_nil, false_imp_iff, implies_true, and_true, Region.binds, forall_const] at hd)
      have hsy := y.bel.size
      (try simp only [World.size_drew] at hsy)
      simp only [putAll, Act.put, List.setIfInBounds_toArray, List.set_cons_zero, List.set_cons_succ, Nat.zero_add, Nat.reduceAdd, hd]
      refine op_loud (by rfl) (by rfl) ?_
      intro KP hKP
      replace hKP := Lib.hid hKP
      go_wp2_with (go_at_call 50; (with_reducible refine (lengthStr_any _ _ _ _).mono ?_); rintro e w' ⟨rfl, z, rfl⟩)
      refine hKP.out _ _ ⟨_, rfl, LaterC.mk (y.bel.trans (z.bel.mono y.bel.size)), EvM.later z, rfl, (fun h => absurd h (by decide))⟩
    case op7 =>
      rintro xv _ ⟨y, rfl⟩ hd
      (try simp only [List.mem_toArray, List.forall_mem_cons, List.not_mem_nil, false_imp_iff, implies_true, and_true, Region.binds, forall_const] at hd)
      obtain ⟨e1, e2, e3⟩ := hd
      have hsy := y.bel.size
      (try simp only [World.size_drew] at hsy)
      simp only [putAll, Act.put, List.setIfInBounds_toArray, List.set_cons_zero, List.set_cons_succ, Nat.zero_add, Nat.reduceAdd, e1, e2, e3]
      refine op_loud (by rfl) (by rfl) ?_
      intro KP hKP
      replace hKP := Lib.hid hKP
      go_wp2_with fail
      refine hKP.out _ _ ⟨_, rfl, ⟨y, rfl⟩, EvM.refl _, rfl, (fun h => absurd h (by decide))⟩
    case op8 =>
      rintro xv _ ⟨y, rfl⟩ hd
      (try simp only [List.mem_toArray, List.forall_mem_cons, List.not_mem_nil, false_imp_iff, implies_true, and_true, Region.binds, forall_const] at hd)
      have hsy := y.bel.size
      (try simp only [World.size_drew] at hsy)
      simp only [putAll, Act.put, List.setIfInBounds_toArray, List.set_cons_zero, List.set_cons_succ, Nat.zero_add, Nat.reduceAdd]
      refine op_loud (by rfl) (by rfl) ?_
      intro KP hKP
      replace hKP := Lib.hid hKP
      go_wp2_with fail
      refine hKP.out _ _ ⟨_, rfl, LaterC.mk (by (repeat (first | (with_reducible exact Below.refl _ _) | (with_reducible assumption) | (with_reducible refine Later.out _ ?_) | (with_reducible refine bel_alloc ?_ _) | (with_reducible refine bel_drew ?_) | (with_reducible refine bel_drewN ?_ _) | (with_reducible refine bel_set ?_ ?_ _) | (with_reducible refine After.out _ ?_ ?_) | (dsimp only; omega) | omega | (simp only [World.size_alloc, World.size_setCell, World.size_drew]; omega)))), EvM.alloc _ _, ⟨y.w.heap.size, rfl, by omega, _, heap_alloc_new _ _, rfl⟩, (fun h => absurd h (by decide))⟩
    case op9 =>
      rintro xv _ ⟨y, rfl⟩ hd
      (try simp only [List.mem_toArray, List.forall_mem_cons, List.not_mem_nil, false_imp_iff, implies_true, and_true, Region.binds, forall_const] at hd)
      obtain ⟨⟨b, e2, hb, hBr⟩, e1, -⟩ := hd
      have hsy := y.bel.size
      (try simp only [World.size_drew] at hsy)
      obtain ⟨v0, d0⟩ := hBr.cells (i := 0) (by omega)
      obtain ⟨v1, d1⟩ := hBr.cells (i := 1) (by omega)
      obtain ⟨v2, d2⟩ := hBr.cells (i := 2) (by omega)
      obtain ⟨v3, d3⟩ := hBr.cells (i := 3) (by omega)
      obtain ⟨v4, d4⟩ := hBr.cells (i := 4) (by omega)
      have f0 := hBr.free 0
      have f1 := hBr.free 1
      have f2 := hBr.free 2
      have f3 := hBr.free 3
      have f4 := hBr.free 4
      replace hBr := Lib.hid hBr
      replace e2 := Lib.hid e2
      simp only [putAll, Act.put, List.setIfInBounds_toArray, List.set_cons_zero, List.set_cons_succ, Nat.zero_add, Nat.reduceAdd, e1, e2.out]
      refine op_loud (by rfl) (by rfl) ?_
      intro KP hKP
      replace hKP := Lib.hid hKP
      go_wp2_with fail
      refine hKP.out _ _ ⟨undef, rfl, LaterC.mk (bel_storeM y.bel (by simpa using hb) _ _ _ _ _), EvM.store hBr.out _ _ _ _ _ rfl, trivial, fun _ => ⟨b, rfl, hb, hBr.out.stored _ _ _ _ _⟩⟩
    case hst =>
      intro i v w1 w2 hE h
      match i, h with
      | 0, h => exact h
      | 1, h => exact h
      | 2, h => exact h
      | 3, h => exact h
      | 4, h => exact h
      | 5, h => exact h
      | 6, h => exact h
      | 7, h => exact h
      | 8, ⟨b, h1, h2, h3⟩ => exact ⟨b, h1, h2, h3.ev hE⟩
      | n + 9, h => trivial
    case hstP =>
      rintro v w1 w2 hE ⟨b, rfl, hb, hG⟩
      obtain ⟨v, rfl, hG2⟩ := hG.ev (P := fun v => v = .slice none 0 0) rfl hE
      exact ⟨b, rfl, hb, hG2⟩
    case hend =>
      rintro xv _ ⟨y, rfl⟩ hall hP
      obtain ⟨b, e21, hb, hG⟩ := hP (by decide)
      clear hall hP
      obtain ⟨hM, hF2⟩ := hG.maskAt
      have hby : Below z3.w.heap.size z3.w y.w := by (repeat (first | (with_reducible exact Below.refl _ _) | (with_reducible assumption) | (with_reducible refine Later.out _ ?_) | (with_reducible refine bel_alloc ?_ _) | (with_reducible refine bel_drew ?_) | (with_reducible refine bel_drewN ?_ _) | (with_reducible refine bel_set ?_ ?_ _) | (with_reducible refine After.out _ ?_ ?_) | (dsimp only; omega) | omega | (simp only [World.size_alloc, World.size_setCell, World.size_drew]; omega)))
      simp only [putAll, Act.put, List.setIfInBounds_toArray, List.set_cons_zero, List.set_cons_succ, e21]
      go_wp2_with fail
      go_meet
      exact ⟨_, rfl, hb, hM, hby, hF2 4⟩
  case rest =>
    obtain ⟨B, rfl, hB, hM, hbc, hfr⟩ := hcut
    have hBz := hM.lt
    have hcs := hbc.size
    obtain ⟨m0, m1, m2, m3, m4⟩ := hM
    have hq4 : ∀ (j : Nat) (h : j < V.length), wc.cell? ⟨g, 1 + j, none⟩ = some (.string V[j]) := fun j h => (hbc.cell hgz).trans (hq3.out j h)
    have r0 := (hbc.cell (p := ⟨w.heap.size, 0, none⟩) (by simp only; omega)).trans r0.out
    have f0 := (hbc.frozen (p := ⟨w.heap.size, 0, none⟩) (by simp only; omega)).trans f0.out
    have r1 := (hbc.cell (p := ⟨w.heap.size, 1, none⟩) (by simp only; omega)).trans r1.out
    have f1 := (hbc.frozen (p := ⟨w.heap.size, 1, none⟩) (by simp only; omega)).trans f1.out
    have r2 := (hbc.cell (p := ⟨w.heap.size, 2, none⟩) (by simp only; omega)).trans r2.out
    have f2 := (hbc.frozen (p := ⟨w.heap.size, 2, none⟩) (by simp only; omega)).trans f2.out
    have r3 := (hbc.cell (p := ⟨w.heap.size, 3, none⟩) (by simp only; omega)).trans r3.out
    have f3 := (hbc.frozen (p := ⟨w.heap.size, 3, none⟩) (by simp only; omega)).trans f3.out
    have r4 := (hbc.cell (p := ⟨w.heap.size, 4, none⟩) (by simp only; omega)).trans r4.out
    have f4 := (hbc.frozen (p := ⟨w.heap.size, 4, none⟩) (by simp only; omega)).trans f4.out
    replace hq4 := Lib.hid hq4
    have hbwc : Below w.heap.size w wc := bel_trans hbw3.out hbc (by omega)
    replace hbwc := Lib.hid hbwc
    clear hbc hq3 hbw3 hfirst
    have hFs : F.size ≤ 1048576 := by
      rw [← hF.out, rev_first (by omega)]
      exact hsR.out 0 (by omega)
    go_wp2_with fail
    have hgB : g < B := by omega
    have hgB1 : g + 1 ≤ B := by omega
    have u5 : w.heap.size < wc.heap.size := by omega
    have u6 : B < wc.heap.size := hBz
    have u7 : g < wc.heap.size := by omega
    have hwB : w.heap.size < B := by omega
    have CE := Lib.hid (fun k (h : k ≤ V.length) hg => cellsK_len (V := V) (W := F.size) k h hg)
    have CS := Lib.hid (fun k (h : k < V.length) => cellsK_succ h)
    have CZ := Lib.hid (cellsK_zero V)
    obtain ⟨Q, hQ⟩ : ∃ Q : Nat → List Bool, cellsK V = Q := ⟨_, rfl⟩
    rw [hQ] at CE CS CZ hcr
    clear hQ
    go_loopw [43] (fun i wr => ∃ (k nn : Nat) (a : Option Addr) (c : Nat), k ≤ V.length ∧ i = .int .i64 k ∧ (∀ j, j < k → goodW V j) ∧ nn = (Q k).length ∧ nn = k * F.size ∧ MaskAt wr B X0 Y0 F.size R.length (.slice a nn c) ∧ wr.frozen? ⟨B, 4, none⟩ = false ∧ wr.ownsRow wc.heap.size 4 1 (.slice a nn c) nn (boolCells (Q k)) ∧ Between B (B + 1) wc wr) (fun i _ => V.length - (intOf i).toNat)
    case atStart => exact ⟨0, 0, none, 0, Nat.zero_le _, rfl, fun j h => absurd h (by omega), by rw [CZ.out]; rfl, by omega, ⟨m0, m1, m2, m3, m4⟩, hfr, by rw [CZ.out]; exact World.ownsRow_nil _ _ _ _, Between.refl _ _ _⟩
    case round =>
      obtain ⟨k, nn, a, c, hk, rfl, hgood, hnn, hnk, hM, hf4, hown, hb⟩ := hrel
      obtain ⟨z, rfl⟩ := AfterC.mk hb
      have hzs := z.btw.size
      obtain ⟨m0, m1, m2, m3, m4⟩ := hM
      replace hgood := Lib.hid hgood
      replace hown := Lib.hid hown
      replace hnn := Lib.hid hnn
      replace hnk := Lib.hid hnk
      clear hb
      by_cases hlt : k < V.length
      · have hi1 : (k : Int) < (R.length : Int) := by omega
        have q5 : wc.cell? ⟨g, 1 + k, none⟩ = some (.string V[k]) := hq4.out k hlt
        have hTs := hsR.out k hlt
        have hgw := Lib.hid (show (V[k].size = F.size ∧ V[k].data.toList.all hashB = true) → goodW V k from fun h _ => by rw [hF.out]; exact h)
        have hgn := Lib.hid (show ¬ (V[k].size = F.size ∧ V[k].data.toList.all hashB = true) → ¬ goodW V k from fun h hg => h (by have := hg hlt; rw [hF.out] at this; exact this))
        have hcs2 := Lib.hid (CS.out k hlt)
        obtain ⟨T, hT⟩ : ∃ T, V[k] = T := ⟨_, rfl⟩
        rw [hT] at q5 hTs hgw hgn hcs2
        clear hT
        obtain ⟨tr, htr, CT⟩ := trimM_any T z.w hTs
        replace CT := Lib.hid CT
        by_cases hg1 : T.size = F.size
        · by_cases hg2 : T.data.toList.all hashB = true
          · have hgk := Lib.hid (hgw.out ⟨hg1, hg2⟩)
            have htr1 : tr.toList.isEmpty = true := by rw [htr]; exact hg2
            have hne : ((T.size : Int) != (F.size : Int)) = false := by simp [hg1]
            have hne2 : (T.size : Int) = (F.size : Int) := by omega
            clear hgw hgn htr hg2
            go_wp2_with fail
            with_reducible refine (CT.out _).mono ?_
            rintro e w' ⟨rfl, y6, rfl⟩
            have hsy6 := y6.bel.size
            (try simp only [World.size_alloc, World.size_setCell, World.size_drew] at hsy6)
            have hM6 : MaskAt y6.w B X0 Y0 F.size R.length (.slice a nn c) := MaskAt.bel ⟨m0, m1, m2, m3, m4⟩ y6.bel
            have hf6 : y6.w.frozen? ⟨B, 4, none⟩ = false := (y6.bel.frozen (by simp only; omega)).trans hf4
            have ho6 := own_bel hown.out y6.bel
            have hb6 : Between B (B + 1) wc y6.w := by (repeat (first | (with_reducible exact Between.refl _ _ _) | (with_reducible refine Between.drew ?_) | (with_reducible refine Between.drewN ?_ _) | (with_reducible refine Between.set ?_ ?_ ?_ _) | (with_reducible refine btw_later _ ?_) | (with_reducible refine btw_alloc ?_ _) | (with_reducible refine btw_after _ ?_) | (with_reducible assumption) | (dsimp only; omega) | omega))
            have hTl : (wordC T).length = T.size := wordC_len T
            replace hM6 := Lib.hid hM6
            replace hf6 := Lib.hid hf6
            replace ho6 := Lib.hid ho6
            replace hb6 := Lib.hid hb6
            have hnn2 := Lib.hid hnn.out
            clear m0 m1 m2 m3 m4 hf4 hown
            go_wp2_with fail
            go_loopw [60] (fun i wr => ∃ (m n2 : Nat) (a : Option Addr) (c : Nat), m ≤ T.size ∧ i = .int .i64 m ∧ n2 = (Q k ++ (wordC T).take m).length ∧ n2 = nn + m ∧ MaskAt wr B X0 Y0 F.size R.length (.slice a n2 c) ∧ wr.frozen? ⟨B, 4, none⟩ = false ∧ wr.ownsRow wc.heap.size 4 1 (.slice a n2 c) n2 (boolCells (Q k ++ (wordC T).take m)) ∧ Between B (B + 1) wc wr) (fun i _ => T.size - (intOf i).toNat)
            case atStart => exact ⟨0, nn, a, c, Nat.zero_le _, rfl, by rw [hnn2.out]; simp, rfl, hM6.out, hf6.out, by simpa using ho6.out, hb6.out⟩
            case round =>
              obtain ⟨m, n2, a2, c2, hm, rfl, hn2, hn2m, hM, hf4, hown, hb⟩ := hrel
              obtain ⟨v, rfl⟩ := AfterC.mk hb
              have hvs := v.btw.size
              obtain ⟨m0, m1, m2, m3, m4⟩ := hM
              have hlt2 := (Owns.of hown).lt
              replace hn2m := Lib.hid hn2m
              replace hown := Lib.hid hown
              replace hlt2 := Lib.hid hlt2
              have hn5 : n2 ≤ 1100000000000 := by
                have h1 := hnk.out
                have h3 := hn2m.out
                have h2 := Nat.mul_le_mul (show k ≤ 1048576 by omega) hFs
                omega
              have hst := fun h => congrArg (fun l => Q k ++ l) (wordC_take (s := T) (m := m) h)
              clear hb
              by_cases hlm : m < T.size
              · have hj1 : (m : Int) < (T.size : Int) := by omega
                have hst2 := hst hlm
                obtain ⟨bb, hbb⟩ : ∃ b, (T[m] == 35) = b := ⟨_, rfl⟩
                have hbe : ((T[m].toNat : Int) == 35) = bb := by
                  rw [← hbb, Bool.eq_iff_iff, beq_iff_eq, beq_iff_eq]
                  constructor
                  · intro h; exact UInt8.toNat_inj.1 (by show T[m].toNat = 35; omega)
                  · intro h; rw [h]; rfl
                rw [hbb, ← List.append_assoc] at hst2
                obtain ⟨P0, hP0⟩ : ∃ l, Q k ++ (wordC T).take m = l := ⟨_, rfl⟩
                simp only [hP0] at hst2 hown hn2
                replace hst2 := Lib.hid hst2
                replace hn2 := Lib.hid hn2
                clear hst hbb hP0
                go_wp2_with fail
                have hgw9 := Lib.hid (fun (W8 w9 : World) (hb8 : Below v.w.heap.size v.w W8) (hg : W8.grownBy w9 (Value.slice a2 n2 c2).ownBlock) => show (w9.cell? ⟨B, 0, none⟩ = some (.int .i64 X0) ∧ w9.cell? ⟨B, 1, none⟩ = some (.int .i64 Y0) ∧ w9.cell? ⟨B, 2, none⟩ = some (.int .i64 F.size) ∧ w9.cell? ⟨B, 3, none⟩ = some (.int .i64 R.length) ∧ w9.cell? ⟨B, 4, none⟩ = some (.slice a2 n2 c2) ∧ w9.frozen? ⟨B, 4, none⟩ = false) ∧ Between B (B + 1) wc w9 by
                  have ho8 := own_bel hown.out hb8
                  have hs8 := hb8.size
                  have hfar := grown_far hg ho8 u6 (by omega)
                  exact ⟨⟨((hfar 0).1.trans (hb8.cell (by simp only; omega))).trans m0, ((hfar 1).1.trans (hb8.cell (by simp only; omega))).trans m1, ((hfar 2).1.trans (hb8.cell (by simp only; omega))).trans m2, ((hfar 3).1.trans (hb8.cell (by simp only; omega))).trans m3, ((hfar 4).1.trans (hb8.cell (by simp only; omega))).trans m4, ((hfar 4).2.trans (hb8.frozen (by simp only; omega))).trans hf4⟩, btw_grown hg ho8 (v.btw.later hb8)⟩)
                refine wp_region_float 1 [(0, true), (2, true), (3, true), (4, true), (5, true), (6, false), (1, false), (7, false), (8, true), (9, false)] (C := fun _ => True) (by kernel_rfl) (by kernel_rfl) (by kernel_rfl) rfl (fun _ _ d _ _ h => by cases d <;> exact h) trivial ?_
                repeat (any_goals (first | (with_reducible apply plan_nil) | ((with_reducible apply float_quiet); (first | (with_reducible exact nth0) | (with_reducible exact nth1) | (with_reducible exact nth2) | (with_reducible exact nth3) | (with_reducible exact nth4) | (with_reducible exact nth5) | (with_reducible exact nth6) | (with_reducible exact nth7) | (with_reducible exact nth8) | (with_reducible exact nth9) | (with_reducible exact nth10) | (with_reducible exact nth11) | (with_reducible exact nth12) | (with_reducible exact nth13) | (with_reducible exact nth14) | (with_reducible exact nth15) | (with_reducible exact nth16) | (with_reducible exact nth17) | (with_reducible exact nth18) | (with_reducible exact nth19) | (with_reducible exact nth20) | (with_reducible exact nth21) | (with_reducible exact nth22) | (with_reducible exact nth23)); rfl; intro KP hKP; go_big_quiet_op; go_big_quiet_on) | ((with_reducible apply float_skip); (first | (with_reducible exact nth0) | (with_reducible exact nth1) | (with_reducible exact nth2) | (with_reducible exact nth3) | (with_reducible exact nth4) | (with_reducible exact nth5) | (with_reducible exact nth6) | (with_reducible exact nth7) | (with_reducible exact nth8) | (with_reducible exact nth9) | (with_reducible exact nth10) | (with_reducible exact nth11) | (with_reducible exact nth12) | (with_reducible exact nth13) | (with_reducible exact nth14) | (with_reducible exact nth15) | (with_reducible exact nth16) | (with_reducible exact nth17) | (with_reducible exact nth18) | (with_reducible exact nth19) | (with_reducible exact nth20) | (with_reducible exact nth21) | (with_reducible exact nth22) | (with_reducible exact nth23)); rfl; rfl; simp only [Act.put, List.setIfInBounds_toArray, List.set_cons_zero, List.set_cons_succ]) | ((with_reducible apply plan_quiet); (first | (with_reducible exact nth0) | (with_reducible exact nth1) | (with_reducible exact nth2) | (with_reducible exact nth3) | (with_reducible exact nth4) | (with_reducible exact nth5) | (with_reducible exact nth6) | (with_reducible exact nth7) | (with_reducible exact nth8) | (with_reducible exact nth9) | (with_reducible exact nth10) | (with_reducible exact nth11) | (with_reducible exact nth12) | (with_reducible exact nth13) | (with_reducible exact nth14) | (with_reducible exact nth15) | (with_reducible exact nth16) | (with_reducible exact nth17) | (with_reducible exact nth18) | (with_reducible exact nth19) | (with_reducible exact nth20) | (with_reducible exact nth21) | (with_reducible exact nth22) | (with_reducible exact nth23)); rfl; intro KP hKP; go_big_quiet_op; go_big_quiet_on) | ((with_reducible apply plan_skip_q); (first | (with_reducible exact nth0) | (with_reducible exact nth1) | (with_reducible exact nth2) | (with_reducible exact nth3) | (with_reducible exact nth4) | (with_reducible exact nth5) | (with_reducible exact nth6) | (with_reducible exact nth7) | (with_reducible exact nth8) | (with_reducible exact nth9) | (with_reducible exact nth10) | (with_reducible exact nth11) | (with_reducible exact nth12) | (with_reducible exact nth13) | (with_reducible exact nth14) | (with_reducible exact nth15) | (with_reducible exact nth16) | (with_reducible exact nth17) | (with_reducible exact nth18) | (with_reducible exact nth19) | (with_reducible exact nth20) | (with_reducible exact nth21) | (with_reducible exact nth22) | (with_reducible exact nth23)); rfl; rfl; simp only [Act.put, List.setIfInBounds_toArray, List.set_cons_zero, List.set_cons_succ]) | ((with_reducible apply plan_loud); (first | (with_reducible exact nth0) | (with_reducible exact nth1) | (with_reducible exact nth2) | (with_reducible exact nth3) | (with_reducible exact nth4) | (with_reducible exact nth5) | (with_reducible exact nth6) | (with_reducible exact nth7) | (with_reducible exact nth8) | (with_reducible exact nth9) | (with_reducible exact nth10) | (with_reducible exact nth11) | (with_reducible exact nth12) | (with_reducible exact nth13) | (with_reducible exact nth14) | (with_reducible exact nth15) | (with_reducible exact nth16) | (with_reducible exact nth17) | (with_reducible exact nth18) | (with_reducible exact nth19) | (with_reducible exact nth20) | (with_reducible exact nth21) | (with_reducible exact nth22) | (with_reducible exact nth23)); rfl; intro KP hKP; (refine oper_append_grown _ _ _ _ rfl 4 ii _ 1 1 Tryz.underlying37 Jii.out.1 Jii.out.2.1 Jii.out.2.2.1 Jii.out.2.2.2 rfl (by decide) wc.heap.size (by (try simp only [World.size_alloc, World.size_drew]); omega) _ _ _ (boolCells P0) rfl (own_bel hown.out (by (repeat (first | (with_reducible exact Below.refl _ _) | (with_reducible assumption) | (with_reducible refine Later.out _ ?_) | (with_reducible refine bel_alloc ?_ _) | (with_reducible refine bel_drew ?_) | (with_reducible refine bel_drewN ?_ _) | (with_reducible refine bel_set ?_ ?_ _) | (with_reducible refine After.out _ ?_ ?_) | (dsimp only; omega) | omega | (simp only [World.size_alloc, World.size_setCell, World.size_drew]; omega))))) _ _ _ [.bool bb] rfl rfl ((Row.madeAt (w := v.w) (cs := #[.bool bb]) (e := 4) rfl rfl).bel (by (repeat (first | (with_reducible exact Below.refl _ _) | (with_reducible assumption) | (with_reducible refine Later.out _ ?_) | (with_reducible refine bel_alloc ?_ _) | (with_reducible refine bel_drew ?_) | (with_reducible refine bel_drewN ?_ _) | (with_reducible refine bel_set ?_ ?_ _) | (with_reducible refine After.out _ ?_ ?_) | (dsimp only; omega) | omega | (simp only [World.size_alloc, World.size_setCell, World.size_drew]; omega))))) (one_bool [bb]) (by unfold maxLen; omega) (by omega) ?_); intro a9 cap9 w9 hown9 hgrow9; obtain ⟨⟨k0, k1, k2, k3, k4, k5⟩, hbw9⟩ := hgw9.out _ _ (by (repeat (first | (with_reducible exact Below.refl _ _) | (with_reducible assumption) | (with_reducible refine Later.out _ ?_) | (with_reducible refine bel_alloc ?_ _) | (with_reducible refine bel_drew ?_) | (with_reducible refine bel_drewN ?_ _) | (with_reducible refine bel_set ?_ ?_ _) | (with_reducible refine After.out _ ?_ ?_) | (dsimp only; omega) | omega | (simp only [World.size_alloc, World.size_setCell, World.size_drew]; omega)))) hgrow9; replace hown9 := Lib.hid hown9; replace hbw9 := Lib.hid hbw9; clear hgrow9; refine hKP _ _ trivial ?_; clear hKP KP; simp only [Act.put, List.setIfInBounds_toArray, List.set_cons_zero, List.set_cons_succ]) | ((with_reducible apply float_fork); rfl; (first | (with_reducible exact nth0) | (with_reducible exact nth1) | (with_reducible exact nth2) | (with_reducible exact nth3) | (with_reducible exact nth4) | (with_reducible exact nth5) | (with_reducible exact nth6) | (with_reducible exact nth7) | (with_reducible exact nth8) | (with_reducible exact nth9) | (with_reducible exact nth10) | (with_reducible exact nth11) | (with_reducible exact nth12) | (with_reducible exact nth13) | (with_reducible exact nth14) | (with_reducible exact nth15) | (with_reducible exact nth16) | (with_reducible exact nth17) | (with_reducible exact nth18) | (with_reducible exact nth19) | (with_reducible exact nth20) | (with_reducible exact nth21) | (with_reducible exact nth22) | (with_reducible exact nth23)); (first | (with_reducible exact nth0) | (with_reducible exact nth1) | (with_reducible exact nth2) | (with_reducible exact nth3) | (with_reducible exact nth4) | (with_reducible exact nth5) | (with_reducible exact nth6) | (with_reducible exact nth7) | (with_reducible exact nth8) | (with_reducible exact nth9) | (with_reducible exact nth10) | (with_reducible exact nth11) | (with_reducible exact nth12) | (with_reducible exact nth13) | (with_reducible exact nth14) | (with_reducible exact nth15) | (with_reducible exact nth16) | (with_reducible exact nth17) | (with_reducible exact nth18) | (with_reducible exact nth19) | (with_reducible exact nth20) | (with_reducible exact nth21) | (with_reducible exact nth22) | (with_reducible exact nth23)); rfl; rfl; (focus intro KP hKP; replace hKP := Lib.hid hKP; go_wp2_with fail; refine hKP.out _ _ trivial ?_; clear hKP KP); rotate_left; (focus intro KP hKP; replace hKP := Lib.hid hKP; go_wp2_with fail; refine hKP.out _ _ trivial ?_; clear hKP KP); (try simp only [List.filter, bne_self_eq_false, Nat.reduceBNe])) | ((with_reducible apply float_last); (first | (with_reducible exact nth0) | (with_reducible exact nth1) | (with_reducible exact nth2) | (with_reducible exact nth3) | (with_reducible exact nth4) | (with_reducible exact nth5) | (with_reducible exact nth6) | (with_reducible exact nth7) | (with_reducible exact nth8) | (with_reducible exact nth9) | (with_reducible exact nth10) | (with_reducible exact nth11) | (with_reducible exact nth12) | (with_reducible exact nth13) | (with_reducible exact nth14) | (with_reducible exact nth15) | (with_reducible exact nth16) | (with_reducible exact nth17) | (with_reducible exact nth18) | (with_reducible exact nth19) | (with_reducible exact nth20) | (with_reducible exact nth21) | (with_reducible exact nth22) | (with_reducible exact nth23)); rfl; (focus intro KP hKP; replace hKP := Lib.hid hKP; go_wp2_with fail; refine hKP.out _ _ trivial ?_; clear hKP KP)) | ((with_reducible apply plan_loud); (first | (with_reducible exact nth0) | (with_reducible exact nth1) | (with_reducible exact nth2) | (with_reducible exact nth3) | (with_reducible exact nth4) | (with_reducible exact nth5) | (with_reducible exact nth6) | (with_reducible exact nth7) | (with_reducible exact nth8) | (with_reducible exact nth9) | (with_reducible exact nth10) | (with_reducible exact nth11) | (with_reducible exact nth12) | (with_reducible exact nth13) | (with_reducible exact nth14) | (with_reducible exact nth15) | (with_reducible exact nth16) | (with_reducible exact nth17) | (with_reducible exact nth18) | (with_reducible exact nth19) | (with_reducible exact nth20) | (with_reducible exact nth21) | (with_reducible exact nth22) | (with_reducible exact nth23)); rfl; (focus intro KP hKP; replace hKP := Lib.hid hKP; go_wp2_with fail; refine hKP.out _ _ trivial ?_; clear hKP KP))))
                all_goals
                  go_wp2_with fail
                  go_roundw
                  case rel =>
                    have h3 := hn2m.out
                    refine ⟨m + 1, n2 + 1, a9, cap9, by omega, by go_num, ?_, by omega, ⟨?_, ?_, ?_, ?_, ?_⟩, ?_, ?_, ?_⟩
                    · rw [hst2.out, List.length_append, ← hn2.out]; rfl
                    · simp [go_sem, ↓IntWalk.iteOmega, k0, k1, k2, k3, k4]
                    · simp [go_sem, ↓IntWalk.iteOmega, k0, k1, k2, k3, k4]
                    · simp [go_sem, ↓IntWalk.iteOmega, k0, k1, k2, k3, k4]
                    · simp [go_sem, ↓IntWalk.iteOmega, k0, k1, k2, k3, k4]
                    · simp [go_sem, ↓IntWalk.iteOmega, k0, k1, k2, k3, k4]
                    · simp [go_sem, ↓IntWalk.iteOmega, k5]
                    · rw [hst2.out, boolCells_snoc]
                      exact own_set hown9.out (by simp only; omega) _
                    · exact Between.set hbw9.out (by simp only; omega) (by simp only; omega) _
                  case measure => first | (simp [intOf]; done) | (simp [intOf]; omega) | omega
              · obtain rfl : m = T.size := by omega
                have hj1 : ¬ (T.size : Int) < (T.size : Int) := by omega
                have ht : (wordC T).take T.size = wordC T := by rw [List.take_of_length_le (by omega)]
                rw [ht, ← hcs2.out] at hn2 hown
                replace hn2 := Lib.hid hn2
                clear ht hst
                go_wp2_with fail
                go_roundw
                case rel =>
                  have h1 := hnk.out
                  have h2 := hn2m.out
                  refine ⟨k + 1, n2, a2, c2, by omega, by go_num, fun j hj => ?_, hn2.out, ?_, ⟨m0, m1, m2, m3, m4⟩, hf4, hown.out, v.btw⟩
                  · by_cases h3 : j < k
                    · exact hgood.out j h3
                    · obtain rfl : j = k := by omega
                      exact hgk.out
                  · rw [Nat.succ_mul]; omega
                case measure => first | (simp [intOf]; done) | (simp [intOf]; omega) | omega
          · obtain ⟨rfl, rfl, rfl, rfl, rfl, rfl⟩ := N2.out k hlt (hgn.out fun h => hg2 h.2)
            have htr1 : tr.toList.isEmpty = false := by rw [htr]; simpa using hg2
            have hne : ((T.size : Int) != (F.size : Int)) = false := by simp [hg1]
            clear hgw hgn htr hg2 hg1
            go_wp2_with fail
            with_reducible refine (CT.out _).mono ?_
            rintro e w' ⟨rfl, y6, rfl⟩
            have hsy6 := y6.bel.size
            (try simp only [World.size_alloc, World.size_setCell, World.size_drew] at hsy6)
            go_wp2_with fail
            refine bodyPost_ret (by simp [results, Tryz.results17, go_sem, ↓IntWalk.iteOmega, *]; try rfl) rfl ?_
            have hb1 := hbwc.out
            exact RetOwn.mk (.slice none 0 0) rfl (World.ownsRow_nil _ _ _ _) (by (repeat (first | (with_reducible exact Below.refl _ _) | (with_reducible assumption) | (with_reducible refine Later.out _ ?_) | (with_reducible refine bel_alloc ?_ _) | (with_reducible refine bel_drew ?_) | (with_reducible refine bel_drewN ?_ _) | (with_reducible refine bel_set ?_ ?_ _) | (with_reducible refine After.out _ ?_ ?_) | (dsimp only; omega) | omega | (simp only [World.size_alloc, World.size_setCell, World.size_drew]; omega))))
        · obtain ⟨rfl, rfl, rfl, rfl, rfl, rfl⟩ := N2.out k hlt (hgn.out fun h => hg1 h.1)
          have hne : ((T.size : Int) != (F.size : Int)) = true := by simpa using (by omega : ¬ (T.size : Int) = F.size)
          clear hgw hgn htr
          go_wp2_with fail
          refine bodyPost_ret (by simp [results, Tryz.results17, go_sem, ↓IntWalk.iteOmega, *]; try rfl) rfl ?_
          have hb1 := hbwc.out
          exact RetOwn.mk (.slice none 0 0) rfl (World.ownsRow_nil _ _ _ _) (by (repeat (first | (with_reducible exact Below.refl _ _) | (with_reducible assumption) | (with_reducible refine Later.out _ ?_) | (with_reducible refine bel_alloc ?_ _) | (with_reducible refine bel_drew ?_) | (with_reducible refine bel_drewN ?_ _) | (with_reducible refine bel_set ?_ ?_ _) | (with_reducible refine After.out _ ?_ ?_) | (dsimp only; omega) | omega | (simp only [World.size_alloc, World.size_setCell, World.size_drew]; omega))))
      · obtain rfl : k = V.length := by omega
        have hi1 : ¬ (V.length : Int) < (R.length : Int) := by omega
        rw [hcr.out] at hown hnn
        have hnn3 := hnn.out
        have hown3 := hown.out
        subst hnn3
        cases hIM : isMaskB X0 Y0 F.size R.length CL.length
        · obtain ⟨rfl, rfl, rfl, rfl, rfl, rfl⟩ := N3.out hIM
          have CI := Lib.hid (fun w => isMask_b X0 Y0 F.size R.length a CL.length c w hIM)
          clear hIM hown3 hown
          go_wp2_with fail
          with_reducible refine (CI.out _).mono ?_
          rintro e w' ⟨rfl, y6, rfl⟩
          have hsy6 := y6.bel.size
          (try simp only [World.size_alloc, World.size_setCell, World.size_drew] at hsy6)
          go_wp2_with fail
          refine bodyPost_ret (by simp [results, Tryz.results17, go_sem, ↓IntWalk.iteOmega, *]; try rfl) rfl ?_
          have hb1 := hbwc.out
          exact RetOwn.mk (.slice none 0 0) rfl (World.ownsRow_nil _ _ _ _) (by (repeat (first | (with_reducible exact Below.refl _ _) | (with_reducible assumption) | (with_reducible refine Later.out _ ?_) | (with_reducible refine bel_alloc ?_ _) | (with_reducible refine bel_drew ?_) | (with_reducible refine bel_drewN ?_ _) | (with_reducible refine bel_set ?_ ?_ _) | (with_reducible refine After.out _ ?_ ?_) | (dsimp only; omega) | omega | (simp only [World.size_alloc, World.size_setCell, World.size_drew]; omega))))
        · obtain ⟨rfl, rfl, rfl, rfl, rfl, rfl⟩ := YM.out (by trivial) (fun j hj => hgood.out j hj) hIM
          have CI := Lib.hid (fun w => isMask_b X Y F.size R.length a L.length c w hIM)
          clear hIM hown
          go_wp2_with fail
          with_reducible refine (CI.out _).mono ?_
          rintro e w' ⟨rfl, y6, rfl⟩
          have hsy6 := y6.bel.size
          (try simp only [World.size_alloc, World.size_setCell, World.size_drew] at hsy6)
          have ho6 := own_bel hown3 y6.bel
          replace ho6 := Lib.hid ho6
          clear hown3
          go_wp2_with fail
          refine bodyPost_ret (by simp [results, Tryz.results17, go_sem, ↓IntWalk.iteOmega, *]; try rfl) rfl ?_
          have hb1 := hbwc.out
          refine RetOwn.mk (.slice a L.length c) rfl ?_ (by (repeat (first | (with_reducible exact Below.refl _ _) | (with_reducible assumption) | (with_reducible refine Later.out _ ?_) | (with_reducible refine bel_alloc ?_ _) | (with_reducible refine bel_drew ?_) | (with_reducible refine bel_drewN ?_ _) | (with_reducible refine bel_set ?_ ?_ _) | (with_reducible refine After.out _ ?_ ?_) | (dsimp only; omega) | omega | (simp only [World.size_alloc, World.size_setCell, World.size_drew]; omega))))
          (refine own_mono (base := ?ob1) ?oh1 ?os1; (case oh1 => ((repeat (with_reducible refine own_set ?_ ?_ _)); (with_reducible exact own_mono ho6.out (by omega)); all_goals (first | (dsimp only; omega) | omega | (simp only [World.size_alloc, World.size_setCell, World.size_drew]; omega)))); (case os1 => (first | (dsimp only; omega) | omega | (simp only [World.size_alloc, World.size_setCell, World.size_drew]; omega))))
end Go.Proofs.YtfjlilpebhiogaaGreatDoor

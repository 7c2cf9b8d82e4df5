import Derived.Test.YtflcfdiochohgaaGreatDoorPackEa
import Derived.Test.YtflcfdiochohgaaGreatDoorPackC
import Derived.Test.YtflcfdiochohgaaGreatDoorPackE
/- Several of my texts, one behind the other: RowF, ResL, ResA, ResI. -/
/- The search in a table by a function value; what the table is used for: lengths, counts, what is never removed. -/
set_option linter.unusedSimpArgs false
set_option linter.unusedVariables false
namespace Go.Proofs.YtflcfdiochohgaaGreatDoor
open Go.RowKit
end Go.Proofs.YtflcfdiochohgaaGreatDoor

/- LeastRemoved and AlwaysKept: both sides. -/
set_option linter.unusedSimpArgs false
set_option linter.unusedVariables false
namespace Go.Proofs.YtflcfdiochohgaaGreatDoor
open Go.RowKit
section
variable (L : List Clm) (a : Option Addr) (n c : Nat) (w : World) (hn : L.length = n) (hm : n ≤ 1048576) (hr : Row w a (clmsCells L)) (ok : ∀ c ∈ L, ClmOk c)
include hn hm hr ok
end
end Go.Proofs.YtflcfdiochohgaaGreatDoor

/- AlwaysKept: both sides. -/
set_option linter.unusedSimpArgs false
set_option linter.unusedVariables false
namespace Go.Proofs.YtflcfdiochohgaaGreatDoor
open Go.RowKit
section
variable (L : List Clm) (a : Option Addr) (n c : Nat) (w : World) (hn : L.length = n) (hm : n ≤ 1048576) (hr : Row w a (clmsCells L)) (ok : ∀ c ∈ L, ClmOk c)
include hn hm hr ok
end
end Go.Proofs.YtflcfdiochohgaaGreatDoor

/- InCores: both sides. -/
set_option linter.unusedSimpArgs false
set_option linter.unusedVariables false
namespace Go.Proofs.YtflcfdiochohgaaGreatDoor
open Go.RowKit
theorem Nest.cells {w : World} {lo hi : Nat} {a : Option Addr} {n c : Nat} {S : List (List Int)} {vs : List Value} (h : Nest w lo hi a n c S vs) {k : Nat} (hk : k < n) :
    ∃ b ai ci, a = some ⟨b, 0, none⟩ ∧ lo ≤ b ∧ b < hi ∧ w.cell? ⟨b, k, none⟩ = some (.slice ai (atL S k).length ci) ∧ ∀ m (hm : m < (atL S k).length), ∃ bi, ai = some ⟨bi, 0, none⟩ ∧ lo ≤ bi ∧ bi < hi ∧ w.cell? ⟨bi, m, none⟩ = some (.int .i64 ((atL S k).getD m 0)) := by
  have hv := h.vlen
  have hn := h.len
  obtain ⟨b, rfl, h1, h2, h3, _⟩ := h.own.at_ (j := k) (by omega)
  obtain ⟨ai, ci, h4, h5⟩ := h.at_ k (by omega)
  have e : atL S k = S[k] := by unfold atL; rw [getD_at (by omega)]
  rw [e]
  refine ⟨b, ai, ci, rfl, h1, h2, by rw [h3, h4], fun m hm => ?_⟩
  obtain ⟨bi, rfl, g1, g2, g3, _⟩ := h5.at_ (j := m) (by omega)
  exact ⟨bi, rfl, g1, g2, by rw [g3, getD_at hm]; simp [intCells, hm]⟩
/-- One more at a place. -/
def addAt (l : List Int) (i : Int) : List Int := l.set i.toNat (l.getD i.toNat 0 + 1)
theorem addAt_len (l : List Int) (i : Int) : (addAt l i).length = l.length := by simp [addAt]
def incIn (l : List Int) (T : List Int) : Nat → List Int
  | 0 => l
  | m + 1 => addAt (incIn l T m) (T.getD m 0)
def incTo (n : Nat) (R : List (List Int)) : Nat → List Int
  | 0 => List.replicate n 0
  | k + 1 => incIn (incTo n R k) (atL R k) (atL R k).length
/-- So many numbers, none negative and none above a bound. -/
def Few (n b : Nat) (l : List Int) : Prop := l.length = n ∧ ∀ i, 0 ≤ l.getD i 0 ∧ l.getD i 0 ≤ b
theorem Few.add {n b : Nat} {l : List Int} (h : Few n b l) (i : Int) : Few n (b + 1) (addAt l i) := by
  refine ⟨(addAt_len l i).trans h.1, fun j => ?_⟩
  unfold addAt
  have h1 := h.2 i.toNat
  have h2 := h.2 j
  by_cases hj : j < l.length
  · rw [getD_at (by simpa using hj), List.getElem_set]
    split
    · omega
    · rw [getD_at hj] at h2; omega
  · rw [getD_out (by simp; omega)]
    omega
theorem Few.incIn {n b : Nat} {l : List Int} (h : Few n b l) (T : List Int) : ∀ m, Few n (b + m) (incIn l T m)
  | 0 => h
  | m + 1 => (Few.incIn h T m).add _
theorem Few.mono {n b b' : Nat} {l : List Int} (h : Few n b l) (hb : b ≤ b') : Few n b' l := ⟨h.1, fun i => by have := h.2 i; omega⟩
theorem few_incTo (n : Nat) {R : List (List Int)} (hR : ∀ T ∈ R, T.length ≤ 12) : ∀ k, Few n (k * 12) (incTo n R k)
  | 0 => ⟨by simp [incTo], fun i => by
    by_cases hi : i < n
    · rw [show incTo n R 0 = List.replicate n 0 from rfl, getD_at (by simpa using hi)]; simp
    · rw [show incTo n R 0 = List.replicate n 0 from rfl, getD_out (by simp; omega)]; simp⟩
  | k + 1 => by
    have ih := few_incTo n hR k
    have hl : (atL R k).length ≤ 12 := by
      by_cases hk : k < R.length
      · exact hR _ (atL_mem hk)
      · unfold atL; rw [getD_out (by omega)]; simp
    exact (ih.incIn (atL R k) _).mono (by rw [Nat.succ_mul]; omega)
theorem info_int64 : (Tryz.prog.info? 2).map (fun i => (i.zero, i.size, i.bytes)) = some (some (.int .i64 0), 1, 8) := by kernel_rfl
theorem intCells_set (l : List Int) (k : Nat) (v : Int) : intCells (l.set k v) = (intCells l).set k (.int .i64 v) := by simp [intCells, List.map_set]
theorem int_cell {W : World} {lo hi g n k : Nat} {l : List Int} (h : Owns W lo hi 2 1 n (some ⟨g, 0, none⟩) n (intCells l)) (hl : l.length = n) (hk : k < n) : W.cell? ⟨g, k, none⟩ = some (.int .i64 (l.getD k 0)) ∧ W.frozen? ⟨g, k, none⟩ = false := by
  obtain ⟨g0, e0, -, -, kc, kf⟩ := h.at_ (j := k) (by omega)
  cases e0
  exact ⟨by rw [kc, getD_at (by omega)]; simp [intCells, show k < l.length by omega], kf⟩
noncomputable def incR (L : List Clm) : List Int := if claimsB L then incTo L.length (minZ (coreG L) L.length []) (minZ (coreG L) L.length []).length else []
noncomputable def incK (L : List Clm) : Int := if claimsB L then 0 else 1
theorem minZ_short {L : List Clm} (h12 : L.length ≤ 12) : ∀ T ∈ minZ (coreG L) L.length [], T.length ≤ 12 := fun T hT => by
  have := ixs_len ((mem_minZ (coreG_mono L) (ixs_nil _) T).1 hT).1
  omega
theorem incR_len (L : List Clm) {n : Nat} (hn : L.length = n) (hm : n ≤ 1048576) : (incR L).length ≤ 1048576 := by
  unfold incR
  split
  · rename_i h
    rw [(few_incTo L.length (minZ_short (len_of_claims h)) _).1]
    omega
  · simp
section
variable (L : List Clm) (a : Option Addr) (n c : Nat) (w : World) (hn : L.length = n) (hm : n ≤ 1048576) (hr : Row w a (clmsCells L)) (ok : ∀ c ∈ L, ClmOk c)
include hn hm hr ok
set_option maxRecDepth 8000 in
set_option maxHeartbeats 4000000 in
theorem inc_impl (hx : Max w) : Calls Tryz.prog 61 #[.slice a n c] w (RetOwn w 2 1 (incR L).length (intCells (incR L)) fun v => .tuple #[v, .int .i64 (incK L)]) := by
  cases h1 : claimsB L
  · rw [show incR L = [] by simp [incR, h1], show incK L = 1 by simp [incK, h1]]
    have C1 := Lib.hid (areClaims_b (c := c) hn hm hr ok hx h1)
    clear ok h1 hn hr hx
    go_enter Tryz.func61, Tryz.ntmps61
    go_wp2_with fail
    with_reducible refine (C1.out).mono ?_
    rintro e w' ⟨rfl, y1, rfl⟩
    have hsy1 := y1.bel.size
    (try simp only [World.size_alloc, World.size_setCell, World.size_drew] at hsy1)
    go_wp2_with fail
    refine bodyPost_ret (by simp [results, Tryz.results61, go_sem, ↓IntWalk.iteOmega, *]; try rfl) rfl ?_
    refine RetOwn.mk (.slice none 0 0) rfl (World.ownsRow_nil _ _ _ _) ?_
    (repeat (first | (with_reducible exact Below.refl _ _) | (with_reducible assumption) | (with_reducible refine Later.out _ ?_) | (with_reducible refine bel_alloc ?_ _) | (with_reducible refine bel_drew ?_) | (with_reducible refine bel_drewN ?_ _) | (with_reducible refine bel_set ?_ ?_ _) | (with_reducible refine After.out _ ?_ ?_) | (dsimp only; omega) | omega | (simp only [World.size_alloc, World.size_setCell, World.size_drew]; omega)))
  have h12 := len_of_claims h1
  have C1 := Lib.hid (areClaims_b (c := c) hn hm hr ok hx h1)
  subst hn
  have CT := Lib.hid (fun (w : World) hr => coresOf_any L a L.length c w rfl h12 hr)
  have hRx : ∀ T ∈ minZ (coreG L) L.length [], Ixs L.length T := fun T hT => ((mem_minZ (coreG_mono L) (ixs_nil _) T).1 hT).1
  have hRl := minZ_small (coreG L) h12 []
  have hsh := minZ_short h12
  obtain ⟨R, hR⟩ : ∃ R, minZ (coreG L) L.length [] = R := ⟨_, rfl⟩
  rw [show incR L = incTo L.length R R.length by simp [incR, h1, hR], show incK L = 0 by simp [incK, h1]]
  rw [hR] at hRx hRl hsh
  simp only [hR] at CT
  clear hR
  have hFT := Lib.hid (few_incTo L.length hsh)
  have hI0 := Lib.hid (show incTo L.length R 0 = List.replicate L.length 0 from rfl)
  have hIS := Lib.hid (show ∀ k, incTo L.length R (k + 1) = incIn (incTo L.length R k) (atL R k) (atL R k).length from fun k => rfl)
  have hmk := run_make_row' (P := Tryz.prog) 35 2 (.int .i64 0) 8 Tryz.underlying35 info_int64 rfl .i64 .i64 L.length (by omega) (by omega)
  replace CT := Lib.hid CT.out
  replace hr := Lib.hid hr
  replace hRx := Lib.hid hRx
  replace hsh := Lib.hid hsh
  clear ok h1 hx
  go_enter Tryz.func61, Tryz.ntmps61
  go_wp2_with fail
  with_reducible refine (C1.out).mono ?_
  rintro e w' ⟨rfl, y1, rfl⟩
  have hsy1 := y1.bel.size
  (try simp only [World.size_alloc, World.size_setCell, World.size_drew] at hsy1)
  go_wp2_with fail
  with_reducible refine (CT.out _ (hr.out.bel (by (repeat (first | (with_reducible exact Below.refl _ _) | (with_reducible assumption) | (with_reducible refine Later.out _ ?_) | (with_reducible refine bel_alloc ?_ _) | (with_reducible refine bel_drew ?_) | (with_reducible refine bel_drewN ?_ _) | (with_reducible refine bel_set ?_ ?_ _) | (with_reducible refine After.out _ ?_ ?_) | (dsimp only; omega) | omega | (simp only [World.size_alloc, World.size_setCell, World.size_drew]; omega)))))).mono ?_
  rintro e w' ⟨a2, c2, vs2, rfl, hnest, y2, rfl⟩
  have hsy2 := y2.bel.size
  (try simp only [World.size_alloc, World.size_setCell, World.size_drew] at hsy2)
  have H2 := Lib.hid hnest
  clear hnest
  have HO := Lib.hid ((Owns.of (World.ownsRow_lit (base := y1.w.heap.size) (e := 2) (size := 1) y1.w (madeCells #[Value.int .i64 0] L.length) L.length (Nat.le_refl _) (by unfold maxLen; omega) (by simp [madeCells]))).bel (B := (y1.w.alloc (.cells (madeCells #[Value.int .i64 0] L.length) 2)).heap.size) (w' := y2.w) (by (repeat (first | (with_reducible exact Below.refl _ _) | (with_reducible assumption) | (with_reducible refine Later.out _ ?_) | (with_reducible refine bel_alloc ?_ _) | (with_reducible refine bel_drew ?_) | (with_reducible refine bel_drewN ?_ _) | (with_reducible refine bel_set ?_ ?_ _) | (with_reducible refine After.out _ ?_ ?_) | (dsimp only; omega) | omega | (simp only [World.size_alloc, World.size_setCell, World.size_drew]; omega)))) (Nat.le_refl _))
  rw [toList_madeCells_one] at HO
  have HO1 : Owns y2.w y1.w.heap.size (y1.w.heap.size + 1) 2 1 L.length (some ⟨y1.w.heap.size, 0, none⟩) L.length (intCells (List.replicate L.length 0)) := by
    have h := HO.out
    rw [World.size_alloc] at h
    rw [show intCells (List.replicate L.length 0) = List.replicate L.length (.int .i64 0) by simp [intCells]]
    exact h
  replace HO1 := Lib.hid HO1
  clear HO
  go_wp2_with fail
  go_loopw [18] (fun i wr => ∃ k : Nat, k ≤ R.length ∧ i = .int .i64 k ∧ Owns wr y1.w.heap.size (y1.w.heap.size + 1) 2 1 L.length (some ⟨y1.w.heap.size, 0, none⟩) L.length (intCells (incTo L.length R k)) ∧ Between y1.w.heap.size (y1.w.heap.size + 1) y2.w wr) (fun i _ => R.length - (intOf i).toNat)
  case atStart => exact ⟨0, Nat.zero_le _, rfl, by rw [hI0.out]; exact HO1.out, Between.refl _ _ _⟩
  case round =>
    obtain ⟨k, hk, rfl, hown, hbt⟩ := hrel
    obtain ⟨z, rfl⟩ := AfterC.mk hbt
    clear hbt
    replace hown := Lib.hid hown
    have hzz := z.btw.size
    by_cases hlt : k < R.length
    · have hi1 : (k : Int) < (R.length : Int) := by omega
      obtain ⟨b, ai, ci, rfl, hge, hb, hcell, hin⟩ := H2.out.cells hlt
      (try simp only [World.size_alloc] at hge)
      have hix := hRx.out _ (atL_mem hlt)
      have hTl := hsh.out _ (atL_mem hlt)
      have hF0 := Lib.hid (hFT.out k)
      have hS1 := hIS.out k
      obtain ⟨T, hT⟩ : ∃ T, atL R k = T := ⟨_, rfl⟩
      obtain ⟨A, hA⟩ : ∃ A, incTo L.length R k = A := ⟨_, rfl⟩
      rw [hT] at hcell hix hTl hS1
      rw [hA] at hF0 hown hS1
      simp only [hT] at hin
      replace hS1 := Lib.hid hS1
      replace hin := Lib.hid hin
      clear hT hA
      have hN0 := Lib.hid (show incIn A T 0 = A from rfl)
      have hNS := Lib.hid (show ∀ m, incIn A T (m + 1) = addAt (incIn A T m) (T.getD m 0) from fun m => rfl)
      go_wp2_with fail
      go_loopw [24] (fun i wr => ∃ m : Nat, m ≤ T.length ∧ i = .int .i64 m ∧ Owns wr y1.w.heap.size (y1.w.heap.size + 1) 2 1 L.length (some ⟨y1.w.heap.size, 0, none⟩) L.length (intCells (incIn A T m)) ∧ Between y1.w.heap.size (y1.w.heap.size + 1) y2.w wr) (fun i _ => T.length - (intOf i).toNat)
      case atStart => exact ⟨0, Nat.zero_le _, rfl, by rw [hN0.out]; (repeat (first | (with_reducible exact hown.out) | (with_reducible apply owns_alloc) | (with_reducible apply owns_set) | (with_reducible apply Owns.drewN) | (dsimp only; omega) | ((try simp only [World.size_alloc, World.size_setCell, World.size_drew]); omega))), by (repeat (first | (with_reducible exact Between.refl _ _ _) | (with_reducible refine Between.drew ?_) | (with_reducible refine Between.drewN ?_ _) | (with_reducible refine Between.set ?_ ?_ ?_ _) | (with_reducible refine btw_later _ ?_) | (with_reducible refine btw_alloc ?_ _) | (with_reducible refine btw_after _ ?_) | (with_reducible assumption) | (dsimp only; omega) | omega))⟩
      case round =>
        obtain ⟨m, hm, rfl, hown2, hbt2⟩ := hrel
        obtain ⟨z2, rfl⟩ := AfterC.mk hbt2
        clear hbt2
        replace hown2 := Lib.hid hown2
        have hz2 := z2.btw.size
        by_cases hlt2 : m < T.length
        · have hi2 : (m : Int) < (T.length : Int) := by omega
          obtain ⟨bi, rfl, hgi, hbi, hci⟩ := hin.out m hlt2
          (try simp only [World.size_alloc] at hgi)
          have hxm := hix.bd _ (List.getElem_mem hlt2)
          rw [← getD_at (d := 0) hlt2] at hxm
          have hF := (hF0.out.incIn T m)
          have hNm := hNS.out m
          obtain ⟨x, hx⟩ : ∃ x : Nat, T.getD m 0 = x := ⟨(T.getD m 0).toNat, by omega⟩
          rw [hx] at hci hxm hNm
          clear hx
          have hxl : x < L.length := by omega
          have hxi : (x : Int) < (L.length : Int) := by omega
          obtain ⟨kc, kf⟩ := int_cell hown2.out hF.1 hxl
          have hfx := hF.2 x
          unfold addAt at hNm
          rw [Int.toNat_natCast] at hNm
          obtain ⟨B, hB⟩ : ∃ B, incIn A T m = B := ⟨_, rfl⟩
          rw [hB] at hown2 hNm kc hfx
          obtain ⟨v, hv⟩ : ∃ v, B.getD x 0 = v := ⟨_, rfl⟩
          rw [hv] at hNm kc hfx
          clear hB hv hF
          replace hNm := Lib.hid hNm
          have hwr : wrap64 (v + 1) = v + 1 := by unfold wrap64; omega
          go_wp2_with fail
          go_roundw
          case rel => exact ⟨m + 1, by omega, by go_num, by rw [hNm.out, intCells_set]; exact Owns.set hown2.out _, by (repeat (first | (with_reducible exact Between.refl _ _ _) | (with_reducible refine Between.drew ?_) | (with_reducible refine Between.drewN ?_ _) | (with_reducible refine Between.set ?_ ?_ ?_ _) | (with_reducible refine btw_later _ ?_) | (with_reducible refine btw_alloc ?_ _) | (with_reducible refine btw_after _ ?_) | (with_reducible assumption) | (dsimp only; omega) | omega))⟩
          case measure => first | (simp [intOf]; done) | (simp [intOf]; omega) | omega
        · obtain rfl : m = T.length := by omega
          go_wp2_with fail
          go_roundw
          case rel => exact ⟨k + 1, by omega, by go_num, by rw [hS1.out]; (repeat (first | (with_reducible exact hown2.out) | (with_reducible apply owns_alloc) | (with_reducible apply owns_set) | (with_reducible apply Owns.drewN) | (dsimp only; omega) | ((try simp only [World.size_alloc, World.size_setCell, World.size_drew]); omega))), by (repeat (first | (with_reducible exact Between.refl _ _ _) | (with_reducible refine Between.drew ?_) | (with_reducible refine Between.drewN ?_ _) | (with_reducible refine Between.set ?_ ?_ ?_ _) | (with_reducible refine btw_later _ ?_) | (with_reducible refine btw_alloc ?_ _) | (with_reducible refine btw_after _ ?_) | (with_reducible assumption) | (dsimp only; omega) | omega))⟩
          case measure => first | (simp [intOf]; done) | (simp [intOf]; omega) | omega
    · obtain rfl : k = R.length := by omega
      have hl := (hFT.out R.length).1
      go_wp2_with fail
      refine bodyPost_ret (by simp [results, Tryz.results61, go_sem, ↓IntWalk.iteOmega, *]; try rfl) rfl ?_
      rw [hl]
      refine RetOwn.mk _ rfl (own_mono hown.out.own (by ((try simp only [World.size_alloc, World.size_setCell, World.size_drew]); omega))) ?_
      (repeat (first | (with_reducible exact Below.refl _ _) | (with_reducible assumption) | (with_reducible refine Later.out _ ?_) | (with_reducible refine bel_alloc ?_ _) | (with_reducible refine bel_drew ?_) | (with_reducible refine bel_drewN ?_ _) | (with_reducible refine bel_set ?_ ?_ _) | (with_reducible refine After.out _ ?_ ?_) | (dsimp only; omega) | omega | (simp only [World.size_alloc, World.size_setCell, World.size_drew]; omega)))
set_option maxRecDepth 8000 in
set_option maxHeartbeats 4000000 in
theorem inc_spec : Calls Tryz.prog 62 #[.slice a n c] w (RetOwn w 2 1 (incR L).length (intCells (incR L)) fun v => .tuple #[v, .int .i64 (incK L)]) := by
  cases h1 : claimsB L
  · rw [show incR L = [] by simp [incR, h1], show incK L = 1 by simp [incK, h1]]
    have C1 := Lib.hid (sAreClaims_b (c := c) hn hm hr ok h1)
    clear ok h1 hn hr
    go_enter Tryz.func62, Tryz.ntmps62
    go_wp2_with fail
    with_reducible refine (C1.out).mono ?_
    rintro e w' ⟨rfl, y1, rfl⟩
    have hsy1 := y1.bel.size
    (try simp only [World.size_alloc, World.size_setCell, World.size_drew] at hsy1)
    go_wp2_with fail
    refine bodyPost_ret (by simp [results, Tryz.results62, go_sem, ↓IntWalk.iteOmega, *]; try rfl) rfl ?_
    refine RetOwn.mk (.slice none 0 0) rfl (World.ownsRow_nil _ _ _ _) ?_
    (repeat (first | (with_reducible exact Below.refl _ _) | (with_reducible assumption) | (with_reducible refine Later.out _ ?_) | (with_reducible refine bel_alloc ?_ _) | (with_reducible refine bel_drew ?_) | (with_reducible refine bel_drewN ?_ _) | (with_reducible refine bel_set ?_ ?_ _) | (with_reducible refine After.out _ ?_ ?_) | (dsimp only; omega) | omega | (simp only [World.size_alloc, World.size_setCell, World.size_drew]; omega)))
  have h12 := len_of_claims h1
  have C1 := Lib.hid (sAreClaims_b (c := c) hn hm hr ok h1)
  subst hn
  have CT := Lib.hid (fun lo a2 c2 (w : World) hr hlo ho => sCores_any L a L.length c rfl h12 (named_of fun c hc => claim_of_claims h1 hc) (L.length + 1) [] (ixs_nil _) (by omega) lo a2 0 c2 w rfl hr hlo ho)
  have hRx : ∀ T ∈ minZ (coreG L) L.length [], Ixs L.length T := fun T hT => ((mem_minZ (coreG_mono L) (ixs_nil _) T).1 hT).1
  have hRl := minZ_small (coreG L) h12 []
  have hsh := minZ_short h12
  obtain ⟨R, hR⟩ : ∃ R, minZ (coreG L) L.length [] = R := ⟨_, rfl⟩
  rw [show incR L = incTo L.length R R.length by simp [incR, h1, hR], show incK L = 0 by simp [incK, h1]]
  rw [hR] at hRx hRl hsh
  simp only [hR] at CT
  clear hR
  have hFT := Lib.hid (few_incTo L.length hsh)
  have hI0 := Lib.hid (show incTo L.length R 0 = List.replicate L.length 0 from rfl)
  have hIS := Lib.hid (show ∀ k, incTo L.length R (k + 1) = incIn (incTo L.length R k) (atL R k) (atL R k).length from fun k => rfl)
  have hmk := run_make_row' (P := Tryz.prog) 35 2 (.int .i64 0) 8 Tryz.underlying35 info_int64 rfl .i64 .i64 L.length (by omega) (by omega)
  replace CT := Lib.hid CT.out
  replace hr := Lib.hid hr
  replace hRx := Lib.hid hRx
  replace hsh := Lib.hid hsh
  clear ok h1
  go_enter Tryz.func62, Tryz.ntmps62
  go_wp2_with fail
  with_reducible refine (C1.out).mono ?_
  rintro e w' ⟨rfl, y1, rfl⟩
  have hsy1 := y1.bel.size
  (try simp only [World.size_alloc, World.size_setCell, World.size_drew] at hsy1)
  have HE : Owns ((y1.w.alloc (.cells (madeCells #[Value.int .i64 0] L.length) 2)).alloc (.cells #[] 2)) (y1.w.heap.size + 1) ((y1.w.alloc (.cells (madeCells #[Value.int .i64 0] L.length) 2)).alloc (.cells #[] 2)).heap.size 2 1 0 (some ⟨y1.w.heap.size + 1, 0, none⟩) 0 (intCells []) := by
    have h := World.ownsRow_lit (base := y1.w.heap.size + 1) (e := 2) (size := 1) (y1.w.alloc (.cells (madeCells #[Value.int .i64 0] L.length) 2)) #[] 0 (by simp only [World.size_alloc]; omega) (by unfold maxLen; omega) rfl
    rw [World.size_alloc] at h
    exact Owns.of h
  go_wp2_with fail
  with_reducible refine (CT.out (y1.w.heap.size + 1) _ _ _ (hr.out.bel (by (repeat (first | (with_reducible exact Below.refl _ _) | (with_reducible assumption) | (with_reducible refine Later.out _ ?_) | (with_reducible refine bel_alloc ?_ _) | (with_reducible refine bel_drew ?_) | (with_reducible refine bel_drewN ?_ _) | (with_reducible refine bel_set ?_ ?_ _) | (with_reducible refine After.out _ ?_ ?_) | (dsimp only; omega) | omega | (simp only [World.size_alloc, World.size_setCell, World.size_drew]; omega))))) (by ((try simp only [World.size_alloc, World.size_setCell, World.size_drew]); omega)) HE).mono ?_
  rintro e w' ⟨a2, c2, vs2, rfl, hnest, y2, rfl⟩
  have hsy2 := y2.bel.size
  (try simp only [World.size_alloc, World.size_setCell, World.size_drew] at hsy2)
  have H2 := Lib.hid hnest
  clear hnest
  have HO := Lib.hid ((Owns.of (World.ownsRow_lit (base := y1.w.heap.size) (e := 2) (size := 1) y1.w (madeCells #[Value.int .i64 0] L.length) L.length (Nat.le_refl _) (by unfold maxLen; omega) (by simp [madeCells]))).bel (B := (y1.w.alloc (.cells (madeCells #[Value.int .i64 0] L.length) 2)).heap.size) (w' := y2.w) (by (repeat (first | (with_reducible exact Below.refl _ _) | (with_reducible assumption) | (with_reducible refine Later.out _ ?_) | (with_reducible refine bel_alloc ?_ _) | (with_reducible refine bel_drew ?_) | (with_reducible refine bel_drewN ?_ _) | (with_reducible refine bel_set ?_ ?_ _) | (with_reducible refine After.out _ ?_ ?_) | (dsimp only; omega) | omega | (simp only [World.size_alloc, World.size_setCell, World.size_drew]; omega)))) (Nat.le_refl _))
  rw [toList_madeCells_one] at HO
  have HO1 : Owns y2.w y1.w.heap.size (y1.w.heap.size + 1) 2 1 L.length (some ⟨y1.w.heap.size, 0, none⟩) L.length (intCells (List.replicate L.length 0)) := by
    have h := HO.out
    rw [World.size_alloc] at h
    rw [show intCells (List.replicate L.length 0) = List.replicate L.length (.int .i64 0) by simp [intCells]]
    exact h
  replace HO1 := Lib.hid HO1
  clear HO
  go_wp2_with fail
  go_loopw [6] (fun i wr => ∃ k : Nat, k ≤ R.length ∧ i = .int .i64 k ∧ Owns wr y1.w.heap.size (y1.w.heap.size + 1) 2 1 L.length (some ⟨y1.w.heap.size, 0, none⟩) L.length (intCells (incTo L.length R k)) ∧ Between y1.w.heap.size (y1.w.heap.size + 1) y2.w wr) (fun i _ => R.length - (intOf i).toNat)
  case atStart => exact ⟨0, Nat.zero_le _, rfl, by rw [hI0.out]; exact HO1.out, Between.refl _ _ _⟩
  case round =>
    obtain ⟨k, hk, rfl, hown, hbt⟩ := hrel
    obtain ⟨z, rfl⟩ := AfterC.mk hbt
    clear hbt
    replace hown := Lib.hid hown
    have hzz := z.btw.size
    by_cases hlt : k < R.length
    · have hi1 : (k : Int) < (R.length : Int) := by omega
      obtain ⟨b, ai, ci, rfl, hge, hb, hcell, hin⟩ := H2.out.cells hlt
      (try simp only [World.size_alloc] at hge)
      have hix := hRx.out _ (atL_mem hlt)
      have hTl := hsh.out _ (atL_mem hlt)
      have hF0 := Lib.hid (hFT.out k)
      have hS1 := hIS.out k
      obtain ⟨T, hT⟩ : ∃ T, atL R k = T := ⟨_, rfl⟩
      obtain ⟨A, hA⟩ : ∃ A, incTo L.length R k = A := ⟨_, rfl⟩
      rw [hT] at hcell hix hTl hS1
      rw [hA] at hF0 hown hS1
      simp only [hT] at hin
      replace hS1 := Lib.hid hS1
      replace hin := Lib.hid hin
      clear hT hA
      have hN0 := Lib.hid (show incIn A T 0 = A from rfl)
      have hNS := Lib.hid (show ∀ m, incIn A T (m + 1) = addAt (incIn A T m) (T.getD m 0) from fun m => rfl)
      go_wp2_with fail
      go_loopw [7] (fun i wr => ∃ m : Nat, m ≤ T.length ∧ i = .int .i64 m ∧ Owns wr y1.w.heap.size (y1.w.heap.size + 1) 2 1 L.length (some ⟨y1.w.heap.size, 0, none⟩) L.length (intCells (incIn A T m)) ∧ Between y1.w.heap.size (y1.w.heap.size + 1) y2.w wr) (fun i _ => T.length - (intOf i).toNat)
      case atStart => exact ⟨0, Nat.zero_le _, rfl, by rw [hN0.out]; (repeat (first | (with_reducible exact hown.out) | (with_reducible apply owns_alloc) | (with_reducible apply owns_set) | (with_reducible apply Owns.drewN) | (dsimp only; omega) | ((try simp only [World.size_alloc, World.size_setCell, World.size_drew]); omega))), by (repeat (first | (with_reducible exact Between.refl _ _ _) | (with_reducible refine Between.drew ?_) | (with_reducible refine Between.drewN ?_ _) | (with_reducible refine Between.set ?_ ?_ ?_ _) | (with_reducible refine btw_later _ ?_) | (with_reducible refine btw_alloc ?_ _) | (with_reducible refine btw_after _ ?_) | (with_reducible assumption) | (dsimp only; omega) | omega))⟩
      case round =>
        obtain ⟨m, hm, rfl, hown2, hbt2⟩ := hrel
        obtain ⟨z2, rfl⟩ := AfterC.mk hbt2
        clear hbt2
        replace hown2 := Lib.hid hown2
        have hz2 := z2.btw.size
        by_cases hlt2 : m < T.length
        · have hi2 : (m : Int) < (T.length : Int) := by omega
          obtain ⟨bi, rfl, hgi, hbi, hci⟩ := hin.out m hlt2
          (try simp only [World.size_alloc] at hgi)
          have hxm := hix.bd _ (List.getElem_mem hlt2)
          rw [← getD_at (d := 0) hlt2] at hxm
          have hF := (hF0.out.incIn T m)
          have hNm := hNS.out m
          obtain ⟨x, hx⟩ : ∃ x : Nat, T.getD m 0 = x := ⟨(T.getD m 0).toNat, by omega⟩
          rw [hx] at hci hxm hNm
          clear hx
          have hxl : x < L.length := by omega
          have hxi : (x : Int) < (L.length : Int) := by omega
          obtain ⟨kc, kf⟩ := int_cell hown2.out hF.1 hxl
          have hfx := hF.2 x
          unfold addAt at hNm
          rw [Int.toNat_natCast] at hNm
          obtain ⟨B, hB⟩ : ∃ B, incIn A T m = B := ⟨_, rfl⟩
          rw [hB] at hown2 hNm kc hfx
          obtain ⟨v, hv⟩ : ∃ v, B.getD x 0 = v := ⟨_, rfl⟩
          rw [hv] at hNm kc hfx
          clear hB hv hF
          replace hNm := Lib.hid hNm
          have hwr : wrap64 (v + 1) = v + 1 := by unfold wrap64; omega
          go_wp2_with fail
          go_roundw
          case rel => exact ⟨m + 1, by omega, by go_num, by rw [hNm.out, intCells_set]; exact Owns.set hown2.out _, by (repeat (first | (with_reducible exact Between.refl _ _ _) | (with_reducible refine Between.drew ?_) | (with_reducible refine Between.drewN ?_ _) | (with_reducible refine Between.set ?_ ?_ ?_ _) | (with_reducible refine btw_later _ ?_) | (with_reducible refine btw_alloc ?_ _) | (with_reducible refine btw_after _ ?_) | (with_reducible assumption) | (dsimp only; omega) | omega))⟩
          case measure => first | (simp [intOf]; done) | (simp [intOf]; omega) | omega
        · obtain rfl : m = T.length := by omega
          go_wp2_with fail
          go_roundw
          case rel => exact ⟨k + 1, by omega, by go_num, by rw [hS1.out]; (repeat (first | (with_reducible exact hown2.out) | (with_reducible apply owns_alloc) | (with_reducible apply owns_set) | (with_reducible apply Owns.drewN) | (dsimp only; omega) | ((try simp only [World.size_alloc, World.size_setCell, World.size_drew]); omega))), by (repeat (first | (with_reducible exact Between.refl _ _ _) | (with_reducible refine Between.drew ?_) | (with_reducible refine Between.drewN ?_ _) | (with_reducible refine Between.set ?_ ?_ ?_ _) | (with_reducible refine btw_later _ ?_) | (with_reducible refine btw_alloc ?_ _) | (with_reducible refine btw_after _ ?_) | (with_reducible assumption) | (dsimp only; omega) | omega))⟩
          case measure => first | (simp [intOf]; done) | (simp [intOf]; omega) | omega
    · obtain rfl : k = R.length := by omega
      have hl := (hFT.out R.length).1
      go_wp2_with fail
      refine bodyPost_ret (by simp [results, Tryz.results62, go_sem, ↓IntWalk.iteOmega, *]; try rfl) rfl ?_
      rw [hl]
      refine RetOwn.mk _ rfl (own_mono hown.out.own (by ((try simp only [World.size_alloc, World.size_setCell, World.size_drew]); omega))) ?_
      (repeat (first | (with_reducible exact Below.refl _ _) | (with_reducible assumption) | (with_reducible refine Later.out _ ?_) | (with_reducible refine bel_alloc ?_ _) | (with_reducible refine bel_drew ?_) | (with_reducible refine bel_drewN ?_ _) | (with_reducible refine bel_set ?_ ?_ _) | (with_reducible refine After.out _ ?_ ?_) | (dsimp only; omega) | omega | (simp only [World.size_alloc, World.size_setCell, World.size_drew]; omega)))
end
end Go.Proofs.YtflcfdiochohgaaGreatDoor

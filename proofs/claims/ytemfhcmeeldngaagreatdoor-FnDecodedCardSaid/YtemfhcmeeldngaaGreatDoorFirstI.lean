import Derived.Test.YtemfhcmeeldngaaGreatDoorWayI
import Derived.Test.YtemfhcmeeldngaaGreatDoorPackPa
/- The first parsing, the program's way. -/
set_option linter.unusedSimpArgs false
set_option linter.unusedVariables false
namespace Go.Proofs.YtemfhcmeeldngaaGreatDoor
open Go.RowKit
/-- Whether there is a parsing, and the first one. -/
def fpK (T : List Rul) (s : ByteArray) : Bool := decide (0 < ways T s 0)
def fpL (T : List Rul) (s : ByteArray) : List Int := if fpK T s then firstL T s s.size 0 else []
theorem firstL_len (T : List Rul) (s : ByteArray) : ∀ f i, (firstL T s f i).length ≤ s.size - i
  | 0, i => by simp [firstL]
  | f + 1, i => by
    unfold firstL
    split
    · rename_i h
      split
      · rename_i k hk
        rw [List.findIdx?_eq_some_iff_getElem] at hk
        obtain ⟨hk, hg, _⟩ := hk
        have := firstL_len T s f (i + (T.getD k ⟨[], ByteArray.empty⟩).rom.size)
        unfold goesB at hg
        rw [Bool.and_eq_true] at hg
        have h2 := (fitsAt_iff.1 hg.1).1
        have h3 : T.getD k ⟨[], ByteArray.empty⟩ = T[k] := by simp [hk]
        rw [h3] at this
        simp only [List.length_cons]
        rw [h3]
        omega
      · simp
    · simp
theorem fpL_len (T : List Rul) (s : ByteArray) : (fpL T s).length ≤ s.size := by
  unfold fpL
  split
  · have := firstL_len T s s.size 0; omega
  · simp
theorem one_int1' (x : Int) : ∀ u ∈ [Value.int .i64 x], u.oneCell' = true := by intro u hu; simp at hu; subst hu; rfl
theorem enters_first1 : ∀ args w, (callFunc 74 args).run Tryz.prog w = .ok (.enter 74 args) w := fun _ _ => by kernel_rfl
set_option maxRecDepth 8000 in
set_option maxHeartbeats 2000000 in
theorem first1_any (T : List Rul) (r : Rul) (s : ByteArray) (i : Nat) (ar ac : Option Addr) (cr cc b3 b8 b6 : Nat) (w : World) (hs : s.size ≤ 1048576) (hr : r.rom.size ≤ 1048576) (hi : i ≤ s.size)
    (h3 : w.cell? ⟨b3, 0, none⟩ = some (.string s)) (h8 : w.cell? ⟨b8, 0, none⟩ = some (.int .i64 i)) (h6 : w.cell? ⟨b6, 0, none⟩ = some (.slice ac (s.size + 1) cc)) (l3 : b3 < w.heap.size) (l8 : b8 < w.heap.size) (l6 : b6 < w.heap.size)
    (hc : Row w ac (intCells (cntL (ways T s) (s.size + 1)))) :
    Calls Tryz.prog 74 #[.agg #[.slice ar r.sg.length cr, .string r.rom], .pointer (some ⟨b3, 0, none⟩), .pointer (some ⟨b8, 0, none⟩), .pointer (some ⟨b6, 0, none⟩)] w (Ret w (.bool (goesB T s i r))) := by
  have C := fun (w : World) => fits_any r s i ar cr w hs hr hi
  have hi' : (i : Int) ≤ (s.size : Int) := by omega
  cases hf : fitsAt r s i
  · have X := Lib.hid (show goesB T s i r = false by simp [goesB, hf])
    simp only [hf] at C
    replace C := Lib.hid C
    replace hc := Lib.hid hc
    clear hf
    go_enter Tryz.func74, Tryz.ntmps74
    go_wp2_with fail
    refine wp_region_later (by kernel_rfl) (by kernel_rfl) ?_
    repeat (go_big_quiet_step ((first | (go_at_call 75; exact Calls.later (C.out _)))))
    refine wpQuiet_nil ?_
    rintro _ ⟨xq, rfl⟩
    go_wp2_with fail
    go_ret
    exact .mk (by rw [X.out]; rfl) (by (repeat (first | (with_reducible exact Below.refl _ _) | (with_reducible assumption) | (with_reducible refine Later.out _ ?_) | (with_reducible refine bel_alloc ?_ _) | (with_reducible refine bel_drew ?_) | (with_reducible refine bel_drewN ?_ _) | (with_reducible refine bel_set ?_ ?_ _) | (with_reducible refine After.out _ ?_ ?_) | (dsimp only; omega) | omega | (simp only [World.size_alloc, World.size_setCell, World.size_drew]; omega))))
  · obtain ⟨f1, f2, -⟩ := fitsAt_iff.1 hf
    obtain ⟨bc, oc, rfl, hcc⟩ := hc (i + r.rom.size) _ (cntL_get _ (by omega))
    have hbc : bc < w.heap.size := World.block_lt_of_cell? w _ hcc
    obtain ⟨g, hg⟩ : ∃ g, ways T s (i + r.rom.size) = g := ⟨_, rfl⟩
    have X := Lib.hid (show goesB T s i r = decide (0 < g) by simp [goesB, hf, hg])
    rw [hg] at hcc
    simp only [hf] at C
    replace C := Lib.hid C
    clear hf hg hc
    go_enter Tryz.func74, Tryz.ntmps74
    go_wp2_with fail
    refine wp_region_later (by kernel_rfl) (by kernel_rfl) ?_
    repeat (go_big_quiet_step ((first | (go_at_call 75; exact Calls.later (C.out _)))))
    refine wpQuiet_nil ?_
    rintro _ ⟨xq, rfl⟩
    go_wp2_with fail
    go_ret
    exact .mk (by rw [X.out]; rfl) (by (repeat (first | (with_reducible exact Below.refl _ _) | (with_reducible assumption) | (with_reducible refine Later.out _ ?_) | (with_reducible refine bel_alloc ?_ _) | (with_reducible refine bel_drew ?_) | (with_reducible refine bel_drewN ?_ _) | (with_reducible refine bel_set ?_ ?_ _) | (with_reducible refine After.out _ ?_ ?_) | (dsimp only; omega) | omega | (simp only [World.size_alloc, World.size_setCell, World.size_drew]; omega))))
theorem tells_first1 {T : List Rul} {s : ByteArray} {i : Nat} {ac : Option Addr} {cc b3 b8 b6 : Nat} {w : World} (hok : ∀ r ∈ T, RulOk r) (hs : s.size ≤ 1048576) (hi : i ≤ s.size)
    (h3 : w.cell? ⟨b3, 0, none⟩ = some (.string s)) (h8 : w.cell? ⟨b8, 0, none⟩ = some (.int .i64 i)) (h6 : w.cell? ⟨b6, 0, none⟩ = some (.slice ac (s.size + 1) cc))
    (hc : Row w ac (intCells (cntL (ways T s) (s.size + 1)))) :
    TellsU 74 #[] #[.pointer (some ⟨b3, 0, none⟩), .pointer (some ⟨b8, 0, none⟩), .pointer (some ⟨b6, 0, none⟩)] (goesB T s i) T w := fun r hr ax cx w' hb _ _ _ => by
  have l3 := World.block_lt_of_cell? w _ h3
  have l8 := World.block_lt_of_cell? w _ h8
  have l6 := World.block_lt_of_cell? w _ h6
  have := first1_any T r s i ax ac cx cc b3 b8 b6 w' hs (hok r hr).t hi ((hb.cell l3).trans h3) ((hb.cell l8).trans h8) ((hb.cell l6).trans h6) (Nat.lt_of_lt_of_le l3 hb.size) (Nat.lt_of_lt_of_le l8 hb.size) (Nat.lt_of_lt_of_le l6 hb.size) (hc.bel hb)
  simpa using this
set_option maxRecDepth 8000 in
set_option maxHeartbeats 4000000 in
theorem firstParsing_any (T : List Rul) (s : ByteArray) (a : Option Addr) (n c : Nat) (w : World) (hn : T.length = n) (hm : n ≤ 1048576) (hok : ∀ r ∈ T, RulOk r) (hs : s.size ≤ 1048576) (hr : RulesR w a T) :
    Calls Tryz.prog 45 #[.slice a n c, .string s] w (RetOwn w 2 1 (fpL T s).length (intCells (fpL T s)) fun v => .tuple #[v, .bool (fpK T s)]) := by
  subst hn
  obtain ⟨ii, j1, j2, j3, j4⟩ := info_i64'
  have Jii := Lib.hid (And.intro j1 (And.intro j2 (And.intro j3 j4)))
  have CW := Lib.hid (fun (w : World) (hr : RulesR w a T) => parsings_any T s a T.length c w rfl hm hok hs hr)
  have CI := Lib.hid (fun (i : Nat) (ac : Option Addr) (cc b3 b8 b6 : Nat) (w : World) (hr : RulesR w a T) (hi : i ≤ s.size) h3 h8 h6 hc => indexFuncU_any 74 #[] #[.pointer (some ⟨b3, 0, none⟩), .pointer (some ⟨b8, 0, none⟩), .pointer (some ⟨b6, 0, none⟩)] (goesB T s i) T a T.length c w enters_first1 rfl hm hr (tells_first1 (ac := ac) (cc := cc) hok hs hi h3 h8 h6 hc))
  replace hr := Lib.hid hr
  replace hok := Lib.hid hok
  clear j1 j2 j3 j4
  have w0 := ways_nonneg T s 0
  by_cases hk : 0 < ways T s 0
  · have XK := Lib.hid (show fpK T s = true by simp [fpK, hk])
    have XL := Lib.hid (show firstL T s s.size 0 = fpL T s by unfold fpL; rw [XK.out]; rfl)
    have hlen := fpL_len T s
    rw [XK.out]
    obtain ⟨R, hR⟩ : ∃ R, fpL T s = R := ⟨_, rfl⟩
    rw [hR] at XL hlen ⊢
    have hne : (ways T s 0 == 0) = false := by rw [beq_eq_false_iff_ne]; omega
    have hk0 := Lib.hid hk
    clear hR hk w0 XK
    go_enter Tryz.func45, Tryz.ntmps45
    go_wp2_with fail
    with_reducible refine (CW.out _ (hr.out.bel (by (repeat (first | (with_reducible exact Below.refl _ _) | (with_reducible assumption) | (with_reducible refine Later.out _ ?_) | (with_reducible refine bel_alloc ?_ _) | (with_reducible refine bel_drew ?_) | (with_reducible refine bel_drewN ?_ _) | (with_reducible refine bel_set ?_ ?_ _) | (with_reducible refine After.out _ ?_ ?_) | (dsimp only; omega) | omega | (simp only [World.size_alloc, World.size_setCell, World.size_drew]; omega)))))).mono ?_
    rintro e w' ⟨a1, c1, rfl, hown, y1, rfl⟩
    have hsy1 := y1.bel.size
    (try simp only [World.size_alloc, World.size_setCell, World.size_drew] at hsy1)
    have O1 := Lib.hid (Owns.of hown)
    clear hown
    obtain ⟨g1, rfl, lg1, lg1', hc1, -⟩ := O1.out.at_ (j := 0) (by omega)
    rw [cntL_get _ (by omega)] at hc1
    have h30 : y1.w.cell? ⟨w.heap.size, 0, none⟩ = some (.string s) := by simp [go_sem, ↓IntWalk.iteOmega]
    go_wp2_with fail
    go_loopw [7, 8] (fun o p wr => ∃ (i f b8 : Nat) (l : List Int) (al : Option Addr) (cl : Nat), o = .slice al l.length cl ∧ p = .pointer (some ⟨b8, 0, none⟩) ∧ i ≤ s.size ∧ s.size - i ≤ f ∧ 0 < ways T s i ∧ l ++ firstL T s f i = R ∧ y1.w.heap.size + 1 ≤ b8 ∧ b8 < wr.heap.size ∧ wr.cell? ⟨b8, 0, none⟩ = some (.int .i64 i) ∧ wr.frozen? ⟨b8, 0, none⟩ = false ∧ Owns wr (y1.w.heap.size + 1) b8 2 1 l.length al cl (intCells l) ∧ ∃ z : Later (y1.w.alloc (.cells #[.slice (some ⟨g1, 0, none⟩) (s.size + 1) c1] 25)), wr = z.w) (fun o p wr => s.size - (match wr.cell? (match p with | .pointer (some q) => q | _ => ⟨0, 0, none⟩) with | some (.int _ i) => i.toNat | _ => 0))
    case atStart =>
      refine ⟨0, s.size, y1.w.heap.size + 1, [], none, 0, rfl, rfl, by omega, by omega, hk0.out, XL.out, by omega, by simp only [World.size_alloc]; omega, ?_, ?_, ⟨World.ownsRow_nil _ _ _ _, fun p hp => by cases hp⟩, LaterC.mk (by (repeat (first | (with_reducible exact Below.refl _ _) | (with_reducible assumption) | (with_reducible refine Later.out _ ?_) | (with_reducible refine bel_alloc ?_ _) | (with_reducible refine bel_drew ?_) | (with_reducible refine bel_drewN ?_ _) | (with_reducible refine bel_set ?_ ?_ _) | (with_reducible refine After.out _ ?_ ?_) | (dsimp only; omega) | omega | (simp only [World.size_alloc, World.size_setCell, World.size_drew]; omega))))⟩
      · simp [go_sem, ↓IntWalk.iteOmega]
      · simp [go_sem, ↓IntWalk.iteOmega]
    case round =>
      obtain ⟨i, f, b8, l, al, cl, rfl, rfl, hi, hf, hw, hl, hb8, hb8', h8, hf8, ho, z, rfl⟩ := hrel
      have hzz := z.bel.size
      (try simp only [World.size_alloc] at hzz)
      have h3 : z.w.cell? ⟨w.heap.size, 0, none⟩ = some (.string s) := (z.bel.cell (by simp only [World.size_alloc]; omega)).trans ((World.cell?_alloc_lt y1.w _ _ (by dsimp only; omega)).trans h30)
      have h6 : z.w.cell? ⟨y1.w.heap.size, 0, none⟩ = some (.slice (some ⟨g1, 0, none⟩) (s.size + 1) c1) := by simp [go_sem, ↓IntWalk.iteOmega]
      replace ho := Lib.hid ho
      by_cases hlt : i < s.size
      · obtain ⟨k, hkT, hidx, hfit, hw2, -, hst⟩ := first_step (f := f) hlt hw hf
        obtain ⟨f1, f2, -⟩ := fitsAt_iff.1 hfit
        have CI1 := CI.out i (some ⟨g1, 0, none⟩) c1 w.heap.size b8 y1.w.heap.size z.w
        rw [hidx] at CI1
        replace CI1 := Lib.hid CI1
        rw [hst] at hl
        have hi1 : (i : Int) < (s.size : Int) := by omega
        have hk1 : (k : Int) < (T.length : Int) := by omega
        have hlR := congrArg List.length hl
        simp only [List.length_append, List.length_cons] at hlR
        have hlen1 : l.length ≤ 1048576 := by omega
        obtain ⟨b, o, ai, ci, rfl, hb, q0, q1, q2, q3, q4⟩ := hr.out.at_ hkT
        have hok1 := (hok.out _ (List.getElem_mem hkT)).t
        replace q2 := Lib.hid q2
        replace hl := Lib.hid hl
        replace hw2 := Lib.hid hw2
        clear q3 q4 hw hst hidx hlR hfit
        go_wp2_with fail
        with_reducible refine (CI1.out (hr.out.bel (by (repeat (first | (with_reducible exact Below.refl _ _) | (with_reducible assumption) | (with_reducible refine Later.out _ ?_) | (with_reducible refine bel_alloc ?_ _) | (with_reducible refine bel_drew ?_) | (with_reducible refine bel_drewN ?_ _) | (with_reducible refine bel_set ?_ ?_ _) | (with_reducible refine After.out _ ?_ ?_) | (dsimp only; omega) | omega | (simp only [World.size_alloc, World.size_setCell, World.size_drew]; omega))))) hi h3 h8 h6 (O1.out.row.bel (by (repeat (first | (with_reducible exact Below.refl _ _) | (with_reducible assumption) | (with_reducible refine Later.out _ ?_) | (with_reducible refine bel_alloc ?_ _) | (with_reducible refine bel_drew ?_) | (with_reducible refine bel_drewN ?_ _) | (with_reducible refine bel_set ?_ ?_ _) | (with_reducible refine After.out _ ?_ ?_) | (dsimp only; omega) | omega | (simp only [World.size_alloc, World.size_setCell, World.size_drew]; omega)))))).mono ?_
        rintro e w' ⟨rfl, y2, rfl⟩
        have hsy2 := y2.bel.size
        clear CI1
        go_wp2_with (at_builtin; (refine wpList_append_apart _ rfl _ _ _ rfl 2 ii _ 1 8 Tryz.underlying25 Jii.out.1 Jii.out.2.1 Jii.out.2.2.1 Jii.out.2.2.2 rfl (by decide) (y1.w.heap.size + 1) (b8) ?qb1 _ _ _ (intCells l) rfl ?qb2 ?qb8 _ _ _ ([.int .i64 k]) rfl ?qb3 ?qb4 ?qb5 ?qb6 ?qb7 ?_); (case qb1 => (first | (dsimp only; omega) | omega | (simp only [World.size_alloc, World.size_setCell, World.size_drew]; omega))); (case qb2 => exact ((ho.out.bel (B := z.w.heap.size) (by (repeat (first | (with_reducible exact Below.refl _ _) | (with_reducible assumption) | (with_reducible refine Later.out _ ?_) | (with_reducible refine bel_alloc ?_ _) | (with_reducible refine bel_drew ?_) | (with_reducible refine bel_drewN ?_ _) | (with_reducible refine bel_set ?_ ?_ _) | (with_reducible refine After.out _ ?_ ?_) | (dsimp only; omega) | omega | (simp only [World.size_alloc, World.size_setCell, World.size_drew]; omega)))) (by omega)) : Owns _ (y1.w.heap.size + 1) b8 2 1 l.length al cl (intCells l)).own); (case qb8 => exact ho.out.lt); (case qb3 => (first | rfl | (simp [boolCells]; done) | (simp [intCells]; done) | (simp; done) | (first | omega | (simp only [List.length_append, List.length_cons, List.length_nil]; omega)))); (case qb4 => exact Row.made _ _ _); (case qb5 => exact one_int1' _); (case qb6 => (unfold maxLen; (first | omega | (simp only [List.length_append, List.length_cons, List.length_nil]; omega)))); (case qb7 => (first | omega | (simp only [List.length_append, List.length_cons, List.length_nil]; omega))); intro a9 c9 x9 hown9 hat9; replace hat9 := Lib.hid hat9; replace hown9 := Lib.hid hown9; have hs9 := x9.btw.size; (try simp only [World.size_alloc, World.size_setCell, World.size_drew] at hs9))
        have hbx : Below w.heap.size w x9.w := by (repeat (first | (with_reducible exact Below.refl _ _) | (with_reducible assumption) | (with_reducible refine Later.out _ ?_) | (with_reducible refine bel_alloc ?_ _) | (with_reducible refine bel_drew ?_) | (with_reducible refine bel_drewN ?_ _) | (with_reducible refine bel_set ?_ ?_ _) | (with_reducible refine After.out _ ?_ ?_) | (dsimp only; omega) | omega | (simp only [World.size_alloc, World.size_setCell, World.size_drew]; omega)))
        have hbL : Below (y1.w.alloc (.cells #[.slice (some ⟨g1, 0, none⟩) (s.size + 1) c1] 25)).heap.size (y1.w.alloc (.cells #[.slice (some ⟨g1, 0, none⟩) (s.size + 1) c1] 25)) x9.w := by (repeat (first | (with_reducible exact Below.refl _ _) | (with_reducible assumption) | (with_reducible refine Later.out _ ?_) | (with_reducible refine bel_alloc ?_ _) | (with_reducible refine bel_drew ?_) | (with_reducible refine bel_drewN ?_ _) | (with_reducible refine bel_set ?_ ?_ _) | (with_reducible refine After.out _ ?_ ?_) | (dsimp only; omega) | omega | (simp only [World.size_alloc, World.size_setCell, World.size_drew]; omega)))
        have q1x := (hbx.cell (p := ⟨b, o + k * 2 + 1, none⟩) hb).trans q1
        have h8x : x9.w.cell? ⟨b8, 0, none⟩ = some (.int .i64 i) := (x9.btw.cell (p := ⟨b8, 0, none⟩) (by simp only [World.size_alloc]; omega) (.inr (Nat.le_refl _))).trans ((World.cell?_alloc_lt y2.w _ _ (by dsimp only; omega)).trans ((y2.bel.cell (p := ⟨b8, 0, none⟩) (by dsimp only; omega)).trans h8))
        have f8x : x9.w.frozen? ⟨b8, 0, none⟩ = false := (x9.btw.frozen (p := ⟨b8, 0, none⟩) (by simp only [World.size_alloc]; omega) (.inr (Nat.le_refl _))).trans ((World.frozen?_of_block (w := y2.w) (Below.heap_alloc y2.w _ b8 (by omega))).trans ((y2.bel.frozen (p := ⟨b8, 0, none⟩) (by dsimp only; omega)).trans hf8))
        have hb9 : b8 < x9.w.heap.size := by omega
        have hat2 := Lib.hid (fun p (hp : a9 = some p) => show p.block < b8 ∨ b8 + 1 ≤ p.block by
          have := hat9.out p hp
          simp only [World.size_alloc] at this
          omega)
        have hlb : b < x9.w.heap.size := by omega
        have h8k := Lib.hid h8
        clear hat9 q0 q1 h8 h3 h6
        generalize x9.w = W9 at hown9 hbL q1x h8x f8x hb9 hlb hs9 ⊢
        refine wp_region_quiet_tail 8 (C := fun w' => ∃ x : Later _, w' = x.w) (by kernel_rfl) (by kernel_rfl) ⟨⟨_, (Below.refl _ _).drew⟩, rfl⟩ ?_
        simp only [List.take_succ_cons, List.take_zero, List.drop_succ_cons, List.drop_zero]
        repeat (go_big_quiet_step (fail))
        refine wpQuiet_nil ?_
        rintro _ ⟨xq, rfl⟩
        have hsq := xq.bel.size
        have hqb : Below W9.heap.size W9 xq.w := xq.bel
        have hxL : Below (y1.w.alloc (.cells #[.slice (some ⟨g1, 0, none⟩) (s.size + 1) c1] 25)).heap.size (y1.w.alloc (.cells #[.slice (some ⟨g1, 0, none⟩) (s.size + 1) c1] 25)) xq.w := hbL.trans (hqb.mono hbL.size)
        have O9 : Owns ((xq.w.setCell ⟨b8, 0, none⟩ (.int .i64 ((i : Int) + (T[k].rom.size : Int)))).alloc (.cells #[.int .i64 ((i : Int) + (T[k].rom.size : Int))] 3)) (y1.w.heap.size + 1) xq.w.heap.size 2 1 (l.length + 1) a9 c9 (intCells (l ++ [(k : Int)])) := by
          have h1 : Owns W9 (y1.w.heap.size + 1) W9.heap.size 2 1 (l.length + 1) a9 c9 (intCells (l ++ [(k : Int)])) := by
            rw [intCells_snoc]
            exact Owns.of hown9.out
          have h2 := h1.bel hqb (Nat.le_refl _)
          have h3 : Owns (xq.w.setCell ⟨b8, 0, none⟩ (.int .i64 ((i : Int) + (T[k].rom.size : Int)))) (y1.w.heap.size + 1) W9.heap.size 2 1 (l.length + 1) a9 c9 (intCells (l ++ [(k : Int)])) :=
            ⟨own_btw h2.own ((Between.refl b8 (b8 + 1) xq.w).set (p := ⟨b8, 0, none⟩) (Nat.le_refl _) (Nat.lt_succ_self _) _) fun q hq => by
              cases a9 with
              | none => simp [Value.ownBlock] at hq
              | some p =>
                simp only [Value.ownBlock, Option.some.injEq] at hq
                subst hq
                exact hat2.out p rfl, h2.lt⟩
          have h4 := h3.bel (B := (xq.w.setCell ⟨b8, 0, none⟩ (.int .i64 ((i : Int) + (T[k].rom.size : Int)))).heap.size) ((Below.refl _ _).alloc (Nat.le_refl _) (.cells #[.int .i64 ((i : Int) + (T[k].rom.size : Int))] 3)) (by simp only [World.size_setCell]; omega)
          exact ⟨h4.own, fun p hp => Nat.lt_of_lt_of_le (h4.lt p hp) hsq⟩
        replace O9 := Lib.hid O9
        clear hat2 hown9
        go_wp2_with fail
        go_roundw
        case rel =>
          refine ⟨i + T[k].rom.size, f - 1, xq.w.heap.size, l ++ [(k : Int)], a9, c9, by simp, rfl, by omega, by omega, hw2.out, ?_, by omega, by simp only [World.size_alloc, World.size_setCell]; omega, ?_, ?_, ?_, ?_⟩
          · rw [List.append_assoc]
            exact hl.out
          · simp [go_sem, ↓IntWalk.iteOmega]
          · simp [go_sem, ↓IntWalk.iteOmega]
          · rw [List.length_append]
            exact O9.out
          · exact LaterC.mk (bel_alloc (bel_set hxL (by simp only [World.size_alloc]; omega) _) _)
        case measure =>
          have h8o := h8k.out
          simp [go_sem, ↓IntWalk.iteOmega, h8o]
          have e : ((i : Int) + (T[k].rom.size : Int)).toNat = i + T[k].rom.size := by omega
          have f3 : 0 < T[k].rom.size := f1
          have f4 : i < s.size := hlt
          rw [e]
          clear hl hw2 hsq hqb hxL hbx hbL hs9 hsy2 hzz hm hok1 hlen1
          omega
      · obtain rfl : i = s.size := by omega
        rw [firstL_end (Nat.le_refl _), List.append_nil] at hl
        subst hl
        go_wp2_with fail
        refine bodyPost_ret (by simp [results, Tryz.results45, go_sem, ↓IntWalk.iteOmega, *]; try rfl) rfl ?_
        refine RetOwn.mk _ rfl (own_mono ho.out.own (by omega)) (by (repeat (first | (with_reducible exact Below.refl _ _) | (with_reducible assumption) | (with_reducible refine Later.out _ ?_) | (with_reducible refine bel_alloc ?_ _) | (with_reducible refine bel_drew ?_) | (with_reducible refine bel_drewN ?_ _) | (with_reducible refine bel_set ?_ ?_ _) | (with_reducible refine After.out _ ?_ ?_) | (dsimp only; omega) | omega | (simp only [World.size_alloc, World.size_setCell, World.size_drew]; omega))))
  · have XK := Lib.hid (show fpK T s = false by simp [fpK, hk])
    have XL := Lib.hid (show fpL T s = [] by unfold fpL; rw [XK.out]; rfl)
    rw [XK.out, XL.out]
    have hz : ways T s 0 = 0 := by omega
    have hne : (ways T s 0 == 0) = true := by rw [beq_iff_eq]; exact hz
    replace hz := Lib.hid hz
    clear hk w0
    go_enter Tryz.func45, Tryz.ntmps45
    go_wp2_with fail
    with_reducible refine (CW.out _ (hr.out.bel (by (repeat (first | (with_reducible exact Below.refl _ _) | (with_reducible assumption) | (with_reducible refine Later.out _ ?_) | (with_reducible refine bel_alloc ?_ _) | (with_reducible refine bel_drew ?_) | (with_reducible refine bel_drewN ?_ _) | (with_reducible refine bel_set ?_ ?_ _) | (with_reducible refine After.out _ ?_ ?_) | (dsimp only; omega) | omega | (simp only [World.size_alloc, World.size_setCell, World.size_drew]; omega)))))).mono ?_
    rintro e w' ⟨a1, c1, rfl, hown, y1, rfl⟩
    have hsy1 := y1.bel.size
    (try simp only [World.size_alloc, World.size_setCell, World.size_drew] at hsy1)
    have O1 := Lib.hid (Owns.of hown)
    clear hown
    obtain ⟨g1, rfl, lg1, lg1', hc1, -⟩ := O1.out.at_ (j := 0) (by omega)
    rw [cntL_get _ (by omega), hz.out] at hc1
    clear hne
    go_wp2_with fail
    refine bodyPost_ret (by simp [results, Tryz.results45, go_sem, ↓IntWalk.iteOmega, *]; try rfl) rfl ?_
    exact RetOwn.mk (.slice none 0 0) rfl (World.ownsRow_nil _ _ _ _) (by (repeat (first | (with_reducible exact Below.refl _ _) | (with_reducible assumption) | (with_reducible refine Later.out _ ?_) | (with_reducible refine bel_alloc ?_ _) | (with_reducible refine bel_drew ?_) | (with_reducible refine bel_drewN ?_ _) | (with_reducible refine bel_set ?_ ?_ _) | (with_reducible refine After.out _ ?_ ?_) | (dsimp only; omega) | omega | (simp only [World.size_alloc, World.size_setCell, World.size_drew]; omega))))
end Go.Proofs.YtemfhcmeeldngaaGreatDoor

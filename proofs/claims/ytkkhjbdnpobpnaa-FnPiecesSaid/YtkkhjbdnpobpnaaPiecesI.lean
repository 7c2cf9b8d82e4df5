import Derived.Test.YtkkhjbdnpobpnaaPiecesQ
import Derived.Test.YtkkhjbdnpobpnaaPieceI
import Derived.Test.YtkkhjbdnpobpnaaClone
import Derived.Test.YtkkhjbdnpobpnaaTwo
import Derived.Test.YtkkhjbdnpobpnaaTail
/- All pieces, the program's way. -/
set_option linter.unusedSimpArgs false
set_option linter.unusedVariables false
namespace Go.Proofs.Ytkkhjbdnpobpnaa
open Go.RowKit
/-- A variable that holds a mask whose cells are a row of its own at the head of a block. -/
def RestAt (W : World) (x y X2 Y2 : Int) (n : Nat) (L : List Value) (t4 : Value) (wx : World) : Prop :=
  ∃ (g4 g c : Nat), t4 = .pointer (some ⟨g4, 0, none⟩) ∧ W.heap.size ≤ g4 ∧ W.heap.size ≤ g ∧ (g4 < g ∨ g + 1 ≤ g4) ∧ MaskAt wx g4 x y X2 Y2 (.slice (some ⟨g, 0, none⟩) n c) ∧ Owns wx g (g + 1) 4 1 n (some ⟨g, 0, none⟩) c L ∧ Below W.heap.size W wx
theorem Owns.tight {w : World} {lo hi e s n : Nat} {a : Option Addr} {c : Nat} {xs : List Value} (h : Owns w lo hi e s n a c xs) (hn : 0 < n) (hs : 0 < s) : ∃ g, a = some ⟨g, 0, none⟩ ∧ lo ≤ g ∧ g < hi ∧ Owns w g (g + 1) e s n (some ⟨g, 0, none⟩) c xs := by
  obtain ⟨g, rfl, h1, h2, -, -⟩ := h.at_ (j := 0) (Nat.mul_pos hn hs)
  exact ⟨g, rfl, h1, h2, own_lift h.own, fun p hp => by cases hp; simp⟩
noncomputable def piecesN (x y W H : Int) (l : List Bool) : List Int := (pcs l (Beside x y W H) l.length).2
set_option maxRecDepth 4000 in
set_option maxHeartbeats 2000000 in
theorem pieces_impl (x y W H : Int) (l : List Bool) (a : Option Addr) (n c : Nat) (w : World) (hn : l.length = n) (hM : isMaskB x y W H n = true) (hr : Row w a (boolCells l)) :
    Calls Try.prog 15 #[.agg #[.int .i64 x, .int .i64 y, .int .i64 W, .int .i64 H, .slice a n c]] w
      (RetOwn w 2 1 (piecesN x y W H l).length (intCells (piecesN x y W H l)) fun v => .tuple #[v, .int .i64 0]) := by
  have b := box_of hM
  have n2 := b.n2
  have n1 : 1 ≤ n := by have h := area_bd (W := W) (H := H) (inB_iff.2 ⟨b.w1, b.w2⟩) (inB_iff.2 ⟨b.h1, b.h2⟩); have := b.n1; omega
  have HB := Lib.hid b
  replace hM := Lib.hid hM
  replace hr := Lib.hid hr
  have HN := Lib.hid hn
  clear b hn
  go_enter Try.func15, Try.ntmps15
  go_upto_region 3 with (first | (go_at_call 21; (with_reducible refine (isMask_b _ _ _ _ _ _ _ _ hM.out).mono ?_); rintro e w' ⟨rfl, xl, rfl⟩; have hsz := xl.bel.size; (try simp only [World.size_alloc] at hsz)))
  go_cut [4] from 13 to 22 (RestAt xl.w x y W H n (boolCells l))
  case first =>
    refine wp_region_float 10 [(0, true), (1, true), (2, true), (3, true), (4, true), (5, true), (6, true), (7, true), (8, false), (9, true), (10, false), (11, false)] (C := LaterC _) (by kernel_rfl) (by kernel_rfl) (by kernel_rfl) rfl (fun _ _ d _ _ h => by cases d <;> exact h) (LaterC.mk ((Below.refl _ _).drew)) ?_
    repeat (any_goals (first | (with_reducible apply plan_nil) | ((with_reducible apply float_quiet); (first | (with_reducible exact nth0) | (with_reducible exact nth1) | (with_reducible exact nth2) | (with_reducible exact nth3) | (with_reducible exact nth4) | (with_reducible exact nth5) | (with_reducible exact nth6) | (with_reducible exact nth7) | (with_reducible exact nth8) | (with_reducible exact nth9) | (with_reducible exact nth10) | (with_reducible exact nth11) | (with_reducible exact nth12) | (with_reducible exact nth13) | (with_reducible exact nth14) | (with_reducible exact nth15) | (with_reducible exact nth16) | (with_reducible exact nth17) | (with_reducible exact nth18) | (with_reducible exact nth19) | (with_reducible exact nth20) | (with_reducible exact nth21) | (with_reducible exact nth22) | (with_reducible exact nth23)); rfl; intro KP hKP; go_big_quiet_op; go_big_quiet_on) | ((with_reducible apply float_skip); (first | (with_reducible exact nth0) | (with_reducible exact nth1) | (with_reducible exact nth2) | (with_reducible exact nth3) | (with_reducible exact nth4) | (with_reducible exact nth5) | (with_reducible exact nth6) | (with_reducible exact nth7) | (with_reducible exact nth8) | (with_reducible exact nth9) | (with_reducible exact nth10) | (with_reducible exact nth11) | (with_reducible exact nth12) | (with_reducible exact nth13) | (with_reducible exact nth14) | (with_reducible exact nth15) | (with_reducible exact nth16) | (with_reducible exact nth17) | (with_reducible exact nth18) | (with_reducible exact nth19) | (with_reducible exact nth20) | (with_reducible exact nth21) | (with_reducible exact nth22) | (with_reducible exact nth23)); rfl; rfl; simp only [Act.put, List.setIfInBounds_toArray, List.set_cons_zero, List.set_cons_succ]) | ((with_reducible apply plan_quiet); (first | (with_reducible exact nth0) | (with_reducible exact nth1) | (with_reducible exact nth2) | (with_reducible exact nth3) | (with_reducible exact nth4) | (with_reducible exact nth5) | (with_reducible exact nth6) | (with_reducible exact nth7) | (with_reducible exact nth8) | (with_reducible exact nth9) | (with_reducible exact nth10) | (with_reducible exact nth11) | (with_reducible exact nth12) | (with_reducible exact nth13) | (with_reducible exact nth14) | (with_reducible exact nth15) | (with_reducible exact nth16) | (with_reducible exact nth17) | (with_reducible exact nth18) | (with_reducible exact nth19) | (with_reducible exact nth20) | (with_reducible exact nth21) | (with_reducible exact nth22) | (with_reducible exact nth23)); rfl; intro KP hKP; go_big_quiet_op; go_big_quiet_on) | ((with_reducible apply plan_skip_q); (first | (with_reducible exact nth0) | (with_reducible exact nth1) | (with_reducible exact nth2) | (with_reducible exact nth3) | (with_reducible exact nth4) | (with_reducible exact nth5) | (with_reducible exact nth6) | (with_reducible exact nth7) | (with_reducible exact nth8) | (with_reducible exact nth9) | (with_reducible exact nth10) | (with_reducible exact nth11) | (with_reducible exact nth12) | (with_reducible exact nth13) | (with_reducible exact nth14) | (with_reducible exact nth15) | (with_reducible exact nth16) | (with_reducible exact nth17) | (with_reducible exact nth18) | (with_reducible exact nth19) | (with_reducible exact nth20) | (with_reducible exact nth21) | (with_reducible exact nth22) | (with_reducible exact nth23)); rfl; rfl; simp only [Act.put, List.setIfInBounds_toArray, List.set_cons_zero, List.set_cons_succ]) | ((with_reducible apply float_fork); rfl; (first | (with_reducible exact nth0) | (with_reducible exact nth1) | (with_reducible exact nth2) | (with_reducible exact nth3) | (with_reducible exact nth4) | (with_reducible exact nth5) | (with_reducible exact nth6) | (with_reducible exact nth7) | (with_reducible exact nth8) | (with_reducible exact nth9) | (with_reducible exact nth10) | (with_reducible exact nth11) | (with_reducible exact nth12) | (with_reducible exact nth13) | (with_reducible exact nth14) | (with_reducible exact nth15) | (with_reducible exact nth16) | (with_reducible exact nth17) | (with_reducible exact nth18) | (with_reducible exact nth19) | (with_reducible exact nth20) | (with_reducible exact nth21) | (with_reducible exact nth22) | (with_reducible exact nth23)); (first | (with_reducible exact nth0) | (with_reducible exact nth1) | (with_reducible exact nth2) | (with_reducible exact nth3) | (with_reducible exact nth4) | (with_reducible exact nth5) | (with_reducible exact nth6) | (with_reducible exact nth7) | (with_reducible exact nth8) | (with_reducible exact nth9) | (with_reducible exact nth10) | (with_reducible exact nth11) | (with_reducible exact nth12) | (with_reducible exact nth13) | (with_reducible exact nth14) | (with_reducible exact nth15) | (with_reducible exact nth16) | (with_reducible exact nth17) | (with_reducible exact nth18) | (with_reducible exact nth19) | (with_reducible exact nth20) | (with_reducible exact nth21) | (with_reducible exact nth22) | (with_reducible exact nth23)); rfl; rfl; (intro KP hKP; go_wp2_with (first | (go_at_call 37; (with_reducible refine (cloneBool_any l _ _ _ _ HN.out (by omega) (by omega) (hr.out.bel (by (repeat (first | (with_reducible exact Below.refl _ _) | (with_reducible assumption) | (with_reducible refine Later.out _ ?_) | (with_reducible refine bel_alloc ?_ _) | (with_reducible refine bel_drew ?_) | (with_reducible refine bel_drewN ?_ _) | (with_reducible refine bel_set ?_ ?_ _) | (with_reducible refine After.out _ ?_ ?_) | (dsimp only; omega) | omega | (simp only [World.size_alloc, World.size_setCell, World.size_drew]; omega)))))).mono ?_); rintro e w' ⟨a5, c5, rfl, hown, y5, rfl⟩; have hsz := y5.bel.size; (try simp only [World.size_alloc, World.size_setCell, World.size_drew] at hsz); (try have hz0 : w.heap.size < y5.w.heap.size := (by omega)); (try have hz1 : w.heap.size + 1 < y5.w.heap.size := (by omega)); (try have hz2 : w.heap.size + 1 + 1 < y5.w.heap.size := (by omega)); have HO5 := Lib.hid (Owns.of hown); clear hown)); refine hKP _ _ (LaterC.mk (by (repeat (first | (with_reducible exact Below.refl _ _) | (with_reducible assumption) | (with_reducible refine Later.out _ ?_) | (with_reducible refine bel_alloc ?_ _) | (with_reducible refine bel_drew ?_) | (with_reducible refine bel_drewN ?_ _) | (with_reducible refine bel_set ?_ ?_ _) | (with_reducible refine After.out _ ?_ ?_) | (dsimp only; omega) | omega | (simp only [World.size_alloc, World.size_setCell, World.size_drew]; omega))))) ?_; clear hKP KP); rotate_left; (intro KP hKP; go_wp2_with fail; refine hKP _ _ (LaterC.mk (by (repeat (first | (with_reducible exact Below.refl _ _) | (with_reducible assumption) | (with_reducible refine Later.out _ ?_) | (with_reducible refine bel_alloc ?_ _) | (with_reducible refine bel_drew ?_) | (with_reducible refine bel_drewN ?_ _) | (with_reducible refine bel_set ?_ ?_ _) | (with_reducible refine After.out _ ?_ ?_) | (dsimp only; omega) | omega | (simp only [World.size_alloc, World.size_setCell, World.size_drew]; omega))))) ?_; clear hKP KP); (try simp only [List.filter, bne_self_eq_false, Nat.reduceBNe])) | ((with_reducible apply float_last); (first | (with_reducible exact nth0) | (with_reducible exact nth1) | (with_reducible exact nth2) | (with_reducible exact nth3) | (with_reducible exact nth4) | (with_reducible exact nth5) | (with_reducible exact nth6) | (with_reducible exact nth7) | (with_reducible exact nth8) | (with_reducible exact nth9) | (with_reducible exact nth10) | (with_reducible exact nth11) | (with_reducible exact nth12) | (with_reducible exact nth13) | (with_reducible exact nth14) | (with_reducible exact nth15) | (with_reducible exact nth16) | (with_reducible exact nth17) | (with_reducible exact nth18) | (with_reducible exact nth19) | (with_reducible exact nth20) | (with_reducible exact nth21) | (with_reducible exact nth22) | (with_reducible exact nth23)); rfl; (intro KP hKP; go_wp2_with fail; refine hKP _ _ (LaterC.mk (by (repeat (first | (with_reducible exact Below.refl _ _) | (with_reducible assumption) | (with_reducible refine Later.out _ ?_) | (with_reducible refine bel_alloc ?_ _) | (with_reducible refine bel_drew ?_) | (with_reducible refine bel_drewN ?_ _) | (with_reducible refine bel_set ?_ ?_ _) | (with_reducible refine After.out _ ?_ ?_) | (dsimp only; omega) | omega | (simp only [World.size_alloc, World.size_setCell, World.size_drew]; omega))))) ?_; clear hKP KP)) | ((with_reducible apply plan_loud); (first | (with_reducible exact nth0) | (with_reducible exact nth1) | (with_reducible exact nth2) | (with_reducible exact nth3) | (with_reducible exact nth4) | (with_reducible exact nth5) | (with_reducible exact nth6) | (with_reducible exact nth7) | (with_reducible exact nth8) | (with_reducible exact nth9) | (with_reducible exact nth10) | (with_reducible exact nth11) | (with_reducible exact nth12) | (with_reducible exact nth13) | (with_reducible exact nth14) | (with_reducible exact nth15) | (with_reducible exact nth16) | (with_reducible exact nth17) | (with_reducible exact nth18) | (with_reducible exact nth19) | (with_reducible exact nth20) | (with_reducible exact nth21) | (with_reducible exact nth22) | (with_reducible exact nth23)); rfl; (intro KP hKP; go_wp2_with (first | (go_at_call 37; (with_reducible refine (cloneBool_any l _ _ _ _ HN.out (by omega) (by omega) (hr.out.bel (by (repeat (first | (with_reducible exact Below.refl _ _) | (with_reducible assumption) | (with_reducible refine Later.out _ ?_) | (with_reducible refine bel_alloc ?_ _) | (with_reducible refine bel_drew ?_) | (with_reducible refine bel_drewN ?_ _) | (with_reducible refine bel_set ?_ ?_ _) | (with_reducible refine After.out _ ?_ ?_) | (dsimp only; omega) | omega | (simp only [World.size_alloc, World.size_setCell, World.size_drew]; omega)))))).mono ?_); rintro e w' ⟨a5, c5, rfl, hown, y5, rfl⟩; have hsz := y5.bel.size; (try simp only [World.size_alloc, World.size_setCell, World.size_drew] at hsz); (try have hz0 : w.heap.size < y5.w.heap.size := (by omega)); (try have hz1 : w.heap.size + 1 < y5.w.heap.size := (by omega)); (try have hz2 : w.heap.size + 1 + 1 < y5.w.heap.size := (by omega)); have HO5 := Lib.hid (Owns.of hown); clear hown)); refine hKP _ _ (LaterC.mk (by (repeat (first | (with_reducible exact Below.refl _ _) | (with_reducible assumption) | (with_reducible refine Later.out _ ?_) | (with_reducible refine bel_alloc ?_ _) | (with_reducible refine bel_drew ?_) | (with_reducible refine bel_drewN ?_ _) | (with_reducible refine bel_set ?_ ?_ _) | (with_reducible refine After.out _ ?_ ?_) | (dsimp only; omega) | omega | (simp only [World.size_alloc, World.size_setCell, World.size_drew]; omega))))) ?_; clear hKP KP))))
    all_goals
      obtain ⟨g, rfl, g1, g2, ho⟩ := HO5.out.tight n1 (by decide)
      replace ho := Lib.hid ho
      clear HO5
      (try simp only [World.size_alloc, World.size_drew] at g1)
      go_wp2_with fail
      go_meet
      refine ⟨_, g, c5, rfl, by (first | omega | exact Nat.le_refl _), by omega, by omega, ?_, ?_, ?_⟩
      · refine ⟨?_, ?_, ?_, ?_, ?_⟩ <;> simp [go_sem, ↓IntWalk.iteOmega, *]
      · (repeat (first | (with_reducible exact ho.out) | (with_reducible apply owns_alloc) | (with_reducible apply owns_set) | (with_reducible apply Owns.drewN) | (dsimp only; omega) | ((try simp only [World.size_alloc, World.size_setCell, World.size_drew]); omega)))
      · (repeat (first | (with_reducible exact Below.refl _ _) | (with_reducible assumption) | (with_reducible refine Later.out _ ?_) | (with_reducible refine bel_alloc ?_ _) | (with_reducible refine bel_drew ?_) | (with_reducible refine bel_drewN ?_ _) | (with_reducible refine bel_set ?_ ?_ _) | (with_reducible refine After.out _ ?_ ?_) | (dsimp only; omega) | omega | (simp only [World.size_alloc, World.size_setCell, World.size_drew]; omega)))
  case rest =>
    obtain ⟨g4, g, c4, rfl, h41, h42, h43, hM4, hO4, hbc⟩ := hcut
    have hg4 := hM4.lt
    have hgl : g < wc.heap.size := by have := hO4.lt _ rfl; have h := hO4.own.lt g rfl; omega
    obtain ⟨m0, m1, m2, m3, m4⟩ := hM4
    have HO4 := Lib.hid hO4
    have hbw : Below w.heap.size w wc := bel_trans (by (repeat (first | (with_reducible exact Below.refl _ _) | (with_reducible assumption) | (with_reducible refine Later.out _ ?_) | (with_reducible refine bel_alloc ?_ _) | (with_reducible refine bel_drew ?_) | (with_reducible refine bel_drewN ?_ _) | (with_reducible refine bel_set ?_ ?_ _) | (with_reducible refine After.out _ ?_ ?_) | (dsimp only; omega) | omega | (simp only [World.size_alloc, World.size_setCell, World.size_drew]; omega)))) hbc (by omega)
    have hcs := hbc.size
    clear hO4 hbc
    go_wp2_with fail
    go_loopw [5, 26] (fun t5 i wr => ∃ (k : Nat) (a5 : Option Addr) (c5 : Nat), k ≤ n ∧ i = .int .i64 k ∧ t5 = .slice a5 (pcs l (Beside x y W H) k).2.length c5 ∧ Between g (g + 1) wc wr ∧
      Owns wr g (g + 1) 4 1 n (some ⟨g, 0, none⟩) c4 (boolCells (minus l (pcs l (Beside x y W H) k).1)) ∧ wr.ownsRow wc.heap.size 2 1 (.slice a5 (pcs l (Beside x y W H) k).2.length c5) (pcs l (Beside x y W H) k).2.length (intCells (pcs l (Beside x y W H) k).2)) (fun _ i _ => n - (intOf i).toNat)
    case atStart =>
      refine ⟨0, none, 0, Nat.zero_le _, rfl, rfl, Between.refl _ _ _, ?_, World.ownsRow_nil _ _ _ _⟩
      rw [show (pcs l (Beside x y W H) 0).1 = List.replicate l.length false from rfl, minus_none]
      exact HO4.out
    case round =>
      obtain ⟨k, a5, c5, hk, rfl, rfl, hb, ho, hl⟩ := hrel
      obtain ⟨D, N, hDN⟩ : ∃ D N, pcs l (Beside x y W H) k = (D, N) := ⟨_, _, rfl⟩
      have hWh := pcs_whole l (Beside x y W H) k
      have hNk := pcs_le l (Beside x y W H) k
      have hsucc := fun h => pcs_no l (Beside x y W H) (k := k) h
      have hsuccY := fun h1 h2 => pcs_yes l (Beside x y W H) (k := k) h1 h2
      rw [hDN] at ho hl hWh hNk hsucc hsuccY
      simp only [hDN]
      simp only at ho hl hWh hNk hsucc hsuccY
      obtain ⟨z, rfl⟩ := AfterC.mk hb
      have hzs := z.btw.size
      have HO := Lib.hid ho
      have HL := Lib.hid hl
      have HW := Lib.hid hWh
      have HS := Lib.hid hsucc
      have HSY := Lib.hid hsuccY
      have HDN := Lib.hid hDN
      have hDl := hWh.len
      clear hb ho hl hWh hsucc hsuccY hDN HO4
      by_cases hlt : k < n
      · have hkl : k < l.length := by rw [HN.out]; exact hlt
        have hkD : k < D.length := by omega
        have hc := HO.out.own.cellAt k (by omega)
        rw [boolCells_get (by rw [length_minus]; exact hkl)] at hc
        have hv : (minus l D)[k]? = some (l[k] && !D[k]) := minus_at hkl hkD
        have hv' : (minus l D)[k]'(by rw [length_minus]; exact hkl) = (l[k] && !D[k]) := Option.some.inj ((List.getElem?_eq_getElem _).symm.trans hv)
        rw [hv'] at hc
        clear hv hv'
        have hf := HO.out.own.frozenAt k
        cases hb : (l[k] && !D[k])
        · rw [hb] at hc
          have HNO : l[k]? ≠ some true ∨ D[k]? ≠ some false := by
            rw [List.getElem?_eq_getElem hkl, List.getElem?_eq_getElem hkD]
            cases h1 : l[k] <;> cases h2 : D[k] <;> simp_all
          replace HNO := Lib.hid HNO
          clear hb
          rcases h43 with h43 | h43
          all_goals
            go_wp2_with fail
            go_roundw
            case rel => exact ⟨k + 1, a5, c5, by omega, by go_num, by rw [HS.out HNO.out], z.btw, by rw [HS.out HNO.out]; exact HO.out, by rw [HS.out HNO.out]; exact HL.out⟩
            case measure => simp [intOf]; omega
        · rw [hb] at hc
          have h1 : l[k]? = some true := by
            rw [List.getElem?_eq_getElem hkl]
            cases h1 : l[k] <;> cases h2 : D[k] <;> simp_all
          have h2 : D[k]? = some false := by
            rw [List.getElem?_eq_getElem hkD]
            cases h1 : l[k] <;> cases h2 : D[k] <;> simp_all
          have hYES := HSY.out h1 h2
          have hP := HW.out.piece (Nb := Beside x y W H) (s := k) (fun i j hi _ h => beside_symm HB.out (by rw [← HN.out]; exact hi) h) h1 h2
          have hPl : (pieceL l (Beside x y W H) k).length = n := by rw [length_pieceL, HN.out]
          have hPP := fun a c w hr => piece_any x y W H (minus l D) a n c k w HB.out (by rw [length_minus, HN.out]) hlt hr
          rw [hP] at hPP
          have hmm := minus_minus (m := l) (D := D) hDl (pieceL l (Beside x y W H) k) (by rw [length_pieceL])
          obtain ⟨P, hPe⟩ : ∃ P, pieceL l (Beside x y W H) k = P := ⟨_, rfl⟩
          rw [hPe] at hYES hPl hPP hmm
          have hol : (minus l D).length = n := by rw [length_minus, HN.out]
          have hnl : (minus (minus l D) P).length = n := by rw [length_minus, hol]
          have hmx : (minus (minus l D) P).length = (minus l D).length := by rw [hnl, hol]
          replace hYES := Lib.hid hYES
          replace hmm := Lib.hid hmm
          obtain ⟨old, hold⟩ : ∃ old, minus l D = old := ⟨_, rfl⟩
          rw [hold] at hol hnl hmx hPP
          replace hPP := Lib.hid hPP
          have hnew := fun j (h1 : j < old.length) (h2 : j < P.length) => minus_at (m := old) (D := P) h1 h2
          obtain ⟨new, hne⟩ : ∃ new, minus old P = new := ⟨_, rfl⟩
          rw [hne] at hnl hmx hnew
          have HO' := HO.out
          have hmm' := hmm.out
          rw [hold] at HO' hmm'
          rw [hne] at hmm'
          replace HO' := Lib.hid HO'
          replace hmm' := Lib.hid hmm'
          replace hnew := Lib.hid hnew
          replace hol := Lib.hid hol
          replace hnl := Lib.hid hnl
          replace hmx := Lib.hid hmx
          replace hPl := Lib.hid hPl
          obtain ⟨ii, j1, j2, j3, j4⟩ := info_i64'
          have Jii := Lib.hid (And.intro j1 (And.intro j2 (And.intro j3 j4)))
          have hNn : N.length ≤ 576 := by omega
          clear j1 j2 j3 j4 hP hPe h1 h2 hb hold hne hmm HO
          rcases h43 with h43 | h43
          all_goals
            go_wp2_with (first | (go_at_call 24; (with_reducible refine (hPP.out _ _ _ HO'.out.row).mono ?_); rintro e w' ⟨a7, c7, rfl, hown, y7, rfl⟩; have hsz7 := y7.bel.size; have HO7 := Lib.hid (Owns.of hown); clear hown) | (go_at_call 38; (with_reducible refine (count_any x y W H P _ _ _ _ hPl.out (by omega) (HO7.out.row.bel (by (repeat (first | (with_reducible exact Below.refl _ _) | (with_reducible assumption) | (with_reducible refine Later.out _ ?_) | (with_reducible refine bel_alloc ?_ _) | (with_reducible refine bel_drew ?_) | (with_reducible refine bel_drewN ?_ _) | (with_reducible refine bel_set ?_ ?_ _) | (with_reducible refine After.out _ ?_ ?_) | (dsimp only; omega) | omega | (simp only [World.size_alloc, World.size_setCell, World.size_drew]; omega)))))).mono ?_); rintro e w' ⟨rfl, y8, rfl⟩; have hsz8 := y8.bel.size; (try simp only [World.size_alloc] at hsz8)) | (at_builtin; (refine wpList_append_after _ rfl _ _ _ rfl 2 ii _ 1 8 Try.underlying44 Jii.out.1 Jii.out.2.1 Jii.out.2.2.1 Jii.out.2.2.2 rfl (by decide) (wc.heap.size) (z.w.heap.size) ?qb1 _ _ _ (intCells N) rfl ?qb2 ?qb8 _ _ _ ([.int .i64 (cntB P P.length)]) rfl ?qb3 ?qb4 ?qb5 ?qb6 ?qb7 ?_); (case qb1 => (first | (dsimp only; omega) | omega | (simp only [World.size_alloc, World.size_setCell, World.size_drew]; omega))); (case qb2 => exact own_bel HL.out (by (repeat (first | (with_reducible exact Below.refl _ _) | (with_reducible assumption) | (with_reducible refine Later.out _ ?_) | (with_reducible refine bel_alloc ?_ _) | (with_reducible refine bel_drew ?_) | (with_reducible refine bel_drewN ?_ _) | (with_reducible refine bel_set ?_ ?_ _) | (with_reducible refine After.out _ ?_ ?_) | (dsimp only; omega) | omega | (simp only [World.size_alloc, World.size_setCell, World.size_drew]; omega))))); (case qb8 => exact fun p hp => (by subst hp; exact (HL.out.lt p.block rfl).2)); (case qb3 => (first | rfl | (simp [boolCells]; done) | (simp [intCells]; done) | (simp; done) | (first | omega | (simp only [List.length_append, List.length_cons, List.length_nil]; omega)))); (case qb4 => exact Row.made _ _ _); (case qb5 => (intro u hu; simp at hu; subst hu; rfl)); (case qb6 => (unfold maxLen; (first | omega | (simp only [List.length_append, List.length_cons, List.length_nil]; omega)))); (case qb7 => (first | omega | (simp only [List.length_append, List.length_cons, List.length_nil]; omega))); intro a9 c9 x9 hown))
            have HO9 := Lib.hid hown
            clear hown
            have hbA : Between g (g + 1) wc x9.w := by (refine btw_beyond x9 ?_ (Nat.le_refl _)); (repeat (first | (with_reducible exact Between.refl _ _ _) | (with_reducible refine Between.drew ?_) | (with_reducible refine Between.drewN ?_ _) | (with_reducible refine Between.set ?_ ?_ ?_ _) | (with_reducible refine btw_later _ ?_) | (with_reducible refine btw_alloc ?_ _) | (with_reducible refine btw_after _ ?_) | (with_reducible assumption) | (dsimp only; omega) | omega))
            have hsx := x9.btw.size
            (try simp only [World.size_alloc] at hsx)
            have hOA := Lib.hid ((HO'.out.bel (B := z.w.heap.size) (w' := (y8.w.alloc (.cells #[.int .i64 (cntB P P.length)] 2))) (by (repeat (first | (with_reducible exact Below.refl _ _) | (with_reducible assumption) | (with_reducible refine Later.out _ ?_) | (with_reducible refine bel_alloc ?_ _) | (with_reducible refine bel_drew ?_) | (with_reducible refine bel_drewN ?_ _) | (with_reducible refine bel_set ?_ ?_ _) | (with_reducible refine After.out _ ?_ ?_) | (dsimp only; omega) | omega | (simp only [World.size_alloc, World.size_setCell, World.size_drew]; omega)))) (by omega)).btw x9.btw (by omega))
            obtain ⟨g7, rfl, p1, p2, -, -⟩ := HO7.out.at_ (j := 0) (by omega)
            have hP7 := HO7.out.own
            replace hP7 := Lib.hid hP7
            go_loopw [46] (fun i wr => ∃ j : Nat, j ≤ n ∧ i = .int .i64 j ∧ Between g (g + 1) x9.w wr ∧ Owns wr g (g + 1) 4 1 n (some ⟨g, 0, none⟩) c4 (boolCells (mixL new old j))) (fun i _ => n - (intOf i).toNat)
            case atStart => exact ⟨0, Nat.zero_le _, rfl, Between.refl _ _ _, by rw [mixL_zero]; exact hOA.out⟩
            case round =>
              obtain ⟨j, hj, rfl, hbj, hoj⟩ := hrel
              obtain ⟨z2, rfl⟩ := AfterC.mk hbj
              have hz2 := z2.btw.size
              clear hbj
              replace hoj := Lib.hid hoj
              by_cases hlt : j < n
              · have hjo : j < old.length := by rw [hol.out]; exact hlt
                have hjn : j < new.length := by rw [hnl.out]; exact hlt
                have hjP : j < P.length := by rw [hPl.out]; exact hlt
                have hcr := hoj.out.own.cellAt j (by omega)
                have hgm : (boolCells (mixL new old j))[j]? = some (.bool old[j]) := by
                  have h := mixL_get hmx.out hjo
                  simp [boolCells, h]
                rw [hgm] at hcr
                have hfr := hoj.out.own.frozenAt j
                have hc7 := hP7.out.cellAt j (by omega)
                rw [boolCells_get hjP] at hc7
                have hst := hoj.out.set (j := j) (.bool new[j])
                rw [mixL_set hmx.out hjn] at hst
                have hnj := hnew.out j hjo hjP
                rw [List.getElem?_eq_getElem hjn] at hnj
                replace hnj := Option.some.inj hnj
                rw [hnj] at hst
                clear hgm hnj
                cases ho : old[j] <;> cases hp : P[j]
                all_goals
                  rw [ho] at hcr hst
                  rw [hp] at hc7 hst
                  simp only [Bool.false_and, Bool.and_false, Bool.true_and, Bool.and_true, Bool.not_true, Bool.not_false] at hst
                  clear ho hp
                  replace hst := Lib.hid hst
                  go_wp2_with fail
                  refine wp_region_still_tail 13 (by kernel_rfl) (by kernel_rfl) ?_
                  simp only [List.take_succ_cons, List.take_zero, List.drop_succ_cons, List.drop_zero]
                  refine wpStill_of_quiet (C := LaterC _) (LaterC.mk ((Below.refl _ _).drew)) (by kernel_rfl) ?_
                  repeat (go_big_quiet_step (fail))
                  refine wpQuiet_nil ?_
                  change wpList _ _ _ _ _ (World.drew _)
                  go_wp2_with fail
                  go_roundw
                  case rel => exact ⟨j + 1, by omega, by go_num, by (repeat (first | (with_reducible exact Between.refl _ _ _) | (with_reducible refine Between.drew ?_) | (with_reducible refine Between.drewN ?_ _) | (with_reducible refine Between.set ?_ ?_ ?_ _) | (with_reducible refine btw_later _ ?_) | (with_reducible refine btw_alloc ?_ _) | (with_reducible refine btw_after _ ?_) | (with_reducible assumption) | (dsimp only; omega) | omega)), hst.out.drew⟩
                  case measure => simp [intOf]; omega
              · obtain rfl : j = n := by omega
                have hfu := hoj.out
                rw [mixL_full hnl.out hol.out] at hfu
                replace hfu := Lib.hid hfu
                go_wp2_with fail
                go_roundw
                case rel =>
                  refine ⟨k + 1, a9, c9, by omega, by go_num, by rw [hYES.out]; simp, ?_, ?_, ?_⟩
                  · exact hbA.trans z2.btw
                  · rw [hYES.out]
                    have h := hfu.out
                    rw [hmm'.out] at h
                    exact h
                  · rw [hYES.out]
                    have e1 : N ++ [(cntB P l.length : Int)] = N ++ [(cntB P P.length : Int)] := by rw [hPl.out, HN.out]
                    simp only [e1, intCells_snoc, List.length_append, List.length_cons, List.length_nil]
                    exact own_btw HO9.out z2.btw fun q hq => by have := (HO9.out.lt q hq).1; omega
                case measure => simp [intOf]; omega
      · obtain rfl : k = n := by omega
        rcases h43 with h43 | h43
        all_goals
          go_wp2_with fail
          refine bodyPost_ret (by simp [results, Try.results15, go_sem, ↓IntWalk.iteOmega]; try rfl) rfl ?_
          have e : piecesN x y W H l = N := by unfold piecesN; rw [HN.out, HDN.out]
          rw [e]
          refine RetOwn.mk _ rfl (own_mono HL.out ?_) ?_
          · omega
          · (repeat (first | (with_reducible exact Below.refl _ _) | (with_reducible assumption) | (with_reducible refine Later.out _ ?_) | (with_reducible refine bel_alloc ?_ _) | (with_reducible refine bel_drew ?_) | (with_reducible refine bel_drewN ?_ _) | (with_reducible refine bel_set ?_ ?_ _) | (with_reducible refine After.out _ ?_ ?_) | (dsimp only; omega) | omega | (simp only [World.size_alloc, World.size_setCell, World.size_drew]; omega)))
end Go.Proofs.Ytkkhjbdnpobpnaa

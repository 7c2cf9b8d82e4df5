import Derived.Test.YtemfhcmeeldngaaGreatDoorFirstI
import Derived.Test.YtemfhcmeeldngaaGreatDoorWayS
/- The first parsing, the reference's way. -/
set_option linter.unusedSimpArgs false
set_option linter.unusedVariables false
namespace Go.Proofs.YtemfhcmeeldngaaGreatDoor
open Go.RowKit
set_option maxRecDepth 8000 in
set_option maxHeartbeats 4000000 in
theorem sFirst_any (T : List Rul) (s : ByteArray) (a : Option Addr) (n c : Nat) (w : World) (hn : T.length = n) (hm : n ≤ 1048576) (hok : ∀ r ∈ T, RulOk r) (hs : s.size ≤ 1048576) (hr : RulesR w a T) :
    Calls Tryz.prog 50 #[.slice a n c, .string s] w (RetOwn w 2 1 (fpL T s).length (intCells (fpL T s)) fun v => .tuple #[v, .bool (fpK T s)]) := by
  subst hn
  obtain ⟨ii, j1, j2, j3, j4⟩ := info_i64'
  have Jii := Lib.hid (And.intro j1 (And.intro j2 (And.intro j3 j4)))
  have CW := Lib.hid (fun (w : World) (hr : RulesR w a T) => sWays_any T s a T.length c w rfl hm hok hs hr)
  replace hr := Lib.hid hr
  replace hok := Lib.hid hok
  clear j1 j2 j3 j4
  have w0 := ways_nonneg T s 0
  by_cases hk : 0 < ways T s 0
  · have XK := Lib.hid (show fpK T s = true by simp [fpK, hk])
    have XL := Lib.hid (show firstL T s s.size 0 = fpL T s by unfold fpL; rw [XK.out]; rfl)
    have hlen := fpL_len T s
    rw [XK.out]
    obtain ⟨R, hR⟩ : ∃ R, fpL T s = R := ⟨_, rfl⟩
    rw [hR] at XL hlen ⊢
    have hne : (ways T s 0 == 0) = false := by rw [beq_eq_false_iff_ne]; omega
    have hk0 := Lib.hid hk
    clear hR hk w0 XK
    go_enter Tryz.func50, Tryz.ntmps50
    go_wp2_with fail
    with_reducible refine (CW.out _ (hr.out.bel (by (repeat (first | (with_reducible exact Below.refl _ _) | (with_reducible assumption) | (with_reducible refine Later.out _ ?_) | (with_reducible refine bel_alloc ?_ _) | (with_reducible refine bel_drew ?_) | (with_reducible refine bel_drewN ?_ _) | (with_reducible refine bel_set ?_ ?_ _) | (with_reducible refine After.out _ ?_ ?_) | (dsimp only; omega) | omega | (simp only [World.size_alloc, World.size_setCell, World.size_drew]; omega)))))).mono ?_
    rintro e w' ⟨a1, c1, rfl, hown, y1, rfl⟩
    have hsy1 := y1.bel.size
    (try simp only [World.size_alloc, World.size_setCell, World.size_drew] at hsy1)
    have O1 := Lib.hid (Owns.of hown)
    clear hown
    obtain ⟨g1, rfl, lg1, lg1', hc1, -⟩ := O1.out.at_ (j := 0) (by omega)
    rw [cntL_get _ (by omega)] at hc1
    have HO := Lib.hid (World.ownsRow_lit (base := y1.w.heap.size) (e := 2) (size := 1) y1.w #[] 0 (Nat.le_refl _) (by unfold maxLen; omega) rfl)
    go_wp2_with fail
    go_loopw [7, 8] (fun o p wr => ∃ (i f : Nat) (l : List Int) (al : Option Addr) (cl : Nat), o = .slice al l.length cl ∧ p = .int .i64 i ∧ i ≤ s.size ∧ s.size - i ≤ f ∧ 0 < ways T s i ∧ l ++ firstL T s f i = R ∧ wr.ownsRow y1.w.heap.size 2 1 (.slice al l.length cl) l.length (intCells l) ∧ ∃ z : Later y1.w, wr = z.w) (fun o p wr => s.size - (intOf p).toNat)
    case atStart => exact ⟨0, s.size, [], _, _, rfl, rfl, by omega, by omega, hk0.out, XL.out, HO.out, LaterC.mk (by (repeat (first | (with_reducible exact Below.refl _ _) | (with_reducible assumption) | (with_reducible refine Later.out _ ?_) | (with_reducible refine bel_alloc ?_ _) | (with_reducible refine bel_drew ?_) | (with_reducible refine bel_drewN ?_ _) | (with_reducible refine bel_set ?_ ?_ _) | (with_reducible refine After.out _ ?_ ?_) | (dsimp only; omega) | omega | (simp only [World.size_alloc, World.size_setCell, World.size_drew]; omega))))⟩
    case round =>
      obtain ⟨i, f, l, al, cl, rfl, rfl, hi, hf, hw, hl, ho, z, rfl⟩ := hrel
      have hzz := z.bel.size
      replace ho := Lib.hid ho
      by_cases hlt : i < s.size
      · obtain ⟨k, hkT, hidx, hfit, hw2, hall, hst⟩ := first_step (f := f) hlt hw hf
        obtain ⟨f1, f2, -⟩ := fitsAt_iff.1 hfit
        rw [hst] at hl
        have hi1 : (i : Int) < (s.size : Int) := by omega
        have hlR := congrArg List.length hl
        simp only [List.length_append, List.length_cons] at hlR
        have hlen1 : l.length ≤ 1048576 := by omega
        replace hl := Lib.hid hl
        replace hw2 := Lib.hid hw2
        replace hall := Lib.hid hall
        replace hfit := Lib.hid hfit
        clear hw hst hidx hlR
        go_wp2_with fail
        go_loopw [7, 8, 9] (fun o p jv wr => o = .slice al l.length cl ∧ p = .int .i64 i ∧ ∃ j : Nat, j ≤ k ∧ jv = .int .i64 j ∧ wr.ownsRow y1.w.heap.size 2 1 (.slice al l.length cl) l.length (intCells l) ∧ ∃ z : Later y1.w, wr = z.w) (fun _ _ jv _ => k - (intOf jv).toNat)
        case atStart => exact ⟨rfl, rfl, 0, Nat.zero_le _, rfl, ho.out, z, rfl⟩
        case round =>
          clear ho hzz
          clear z
          obtain ⟨rfl, rfl, j, hj, rfl, ho, z, rfl⟩ := hrel
          have hzz := z.bel.size
          have hjT : j < T.length := by omega
          have hj1 : (j : Int) < (T.length : Int) := by omega
          obtain ⟨b, o, ai, ci, rfl, hb, q0, q1, q2, q3, q4⟩ := hr.out.at_ hjT
          have hok1 := (hok.out _ (List.getElem_mem hjT)).t
          have C := fun (w : World) => sFits_any T[j] s i ai ci w hs hok1 hi
          replace ho := Lib.hid ho
          clear q2 q3 q4
          by_cases hjk : j = k
          · subst hjk
            have hw3 := hw2.out
            obtain ⟨b1, o1, e1, hcc⟩ := O1.out.row (i + T[j].rom.size) _ (cntL_get _ (by omega))
            cases e1
            rw [Nat.zero_add] at hcc
            obtain ⟨g, hg⟩ : ∃ g, ways T s (i + T[j].rom.size) = g := ⟨_, rfl⟩
            rw [hg] at hcc hw3
            simp only [hfit.out] at C
            replace C := Lib.hid C
            replace hg := Lib.hid hg
            go_wp2_with fail
            with_reducible refine (C.out _).mono ?_
            rintro e w' ⟨rfl, y2, rfl⟩
            have hsy2 := y2.bel.size
            go_wp2_with (at_builtin; (refine wpList_append_later _ rfl _ _ _ rfl 2 ii _ 1 8 Tryz.underlying25 Jii.out.1 Jii.out.2.1 Jii.out.2.2.1 Jii.out.2.2.2 rfl (by decide) (y1.w) ?qa1 _ _ _ (intCells l) rfl ?qa2 _ _ _ ([.int .i64 j]) rfl ?qa3 ?qa4 ?qa5 ?qa6 ?qa7 ?_); (case qa1 => (repeat (first | (with_reducible exact Below.refl _ _) | (with_reducible assumption) | (with_reducible refine Later.out _ ?_) | (with_reducible refine bel_alloc ?_ _) | (with_reducible refine bel_drew ?_) | (with_reducible refine bel_drewN ?_ _) | (with_reducible refine bel_set ?_ ?_ _) | (with_reducible refine After.out _ ?_ ?_) | (dsimp only; omega) | omega | (simp only [World.size_alloc, World.size_setCell, World.size_drew]; omega)))); (case qa2 => exact own_bel ho.out (by (repeat (first | (with_reducible exact Below.refl _ _) | (with_reducible assumption) | (with_reducible refine Later.out _ ?_) | (with_reducible refine bel_alloc ?_ _) | (with_reducible refine bel_drew ?_) | (with_reducible refine bel_drewN ?_ _) | (with_reducible refine bel_set ?_ ?_ _) | (with_reducible refine After.out _ ?_ ?_) | (dsimp only; omega) | omega | (simp only [World.size_alloc, World.size_setCell, World.size_drew]; omega))))); (case qa3 => (first | rfl | (simp [boolCells]; done) | (simp [intCells]; done) | (simp; done) | (first | omega | (simp only [List.length_append, List.length_cons, List.length_nil]; omega)))); (case qa4 => exact Row.made _ _ _); (case qa5 => exact one_int1' _); (case qa6 => (unfold maxLen; (first | omega | (simp only [List.length_append, List.length_cons, List.length_nil]; omega)))); (case qa7 => (first | omega | (simp only [List.length_append, List.length_cons, List.length_nil]; omega))); intro a9 c9 x9 hown9; replace hown9 := Lib.hid hown9; have hs9 := x9.bel.size)
            go_roundw
            case rel =>
              refine ⟨i + T[j].rom.size, f - 1, l ++ [(j : Int)], a9, c9, by simp, by go_num, by omega, by omega, hw2.out, ?_, ?_, x9, rfl⟩
              · rw [List.append_assoc]
                exact hl.out
              · rw [List.length_append, intCells_snoc]
                exact hown9.out
            case measure =>
              have e : ((i : Int) + (T[j].rom.size : Int)).toNat = i + T[j].rom.size := by omega
              have f3 : 0 < T[j].rom.size := f1
              have f4 : i < s.size := hlt
              simp [intOf]
              omega
          · have hno := hall.out j hjT (by omega)
            unfold goesB at hno
            have X : fitsAt T[j] s i = false ∨ (fitsAt T[j] s i = true ∧ ¬ 0 < ways T s (i + T[j].rom.size)) := by
              cases hf : fitsAt T[j] s i
              · exact .inl rfl
              · rw [hf] at hno
                simp at hno
                exact .inr ⟨rfl, by omega⟩
            clear hno
            rcases X with X | ⟨X, X2⟩
            · simp only [X] at C
              replace C := Lib.hid C
              clear X
              go_wp2_with fail
              with_reducible refine (C.out _).mono ?_
              rintro e w' ⟨rfl, y2, rfl⟩
              have hsy2 := y2.bel.size
              go_wp2_with fail
              go_roundw
              case rel => exact ⟨rfl, rfl, j + 1, by omega, by go_num, own_bel ho.out (by (repeat (first | (with_reducible exact Below.refl _ _) | (with_reducible assumption) | (with_reducible refine Later.out _ ?_) | (with_reducible refine bel_alloc ?_ _) | (with_reducible refine bel_drew ?_) | (with_reducible refine bel_drewN ?_ _) | (with_reducible refine bel_set ?_ ?_ _) | (with_reducible refine After.out _ ?_ ?_) | (dsimp only; omega) | omega | (simp only [World.size_alloc, World.size_setCell, World.size_drew]; omega)))), LaterC.mk (by (repeat (first | (with_reducible exact Below.refl _ _) | (with_reducible assumption) | (with_reducible refine Later.out _ ?_) | (with_reducible refine bel_alloc ?_ _) | (with_reducible refine bel_drew ?_) | (with_reducible refine bel_drewN ?_ _) | (with_reducible refine bel_set ?_ ?_ _) | (with_reducible refine After.out _ ?_ ?_) | (dsimp only; omega) | omega | (simp only [World.size_alloc, World.size_setCell, World.size_drew]; omega))))⟩
              case measure => first | (simp [intOf]; done) | (simp [intOf]; omega) | omega
            · have hfj := (fitsAt_iff.1 X).2.1
              obtain ⟨b1, o1, e1, hcc⟩ := O1.out.row (i + T[j].rom.size) _ (cntL_get _ (by omega))
              cases e1
              rw [Nat.zero_add] at hcc
              obtain ⟨g, hg⟩ : ∃ g, ways T s (i + T[j].rom.size) = g := ⟨_, rfl⟩
              rw [hg] at hcc X2
              simp only [X] at C
              replace C := Lib.hid C
              clear X hg
              go_wp2_with fail
              with_reducible refine (C.out _).mono ?_
              rintro e w' ⟨rfl, y2, rfl⟩
              have hsy2 := y2.bel.size
              go_wp2_with fail
              go_roundw
              case rel => exact ⟨rfl, rfl, j + 1, by omega, by go_num, own_bel ho.out (by (repeat (first | (with_reducible exact Below.refl _ _) | (with_reducible assumption) | (with_reducible refine Later.out _ ?_) | (with_reducible refine bel_alloc ?_ _) | (with_reducible refine bel_drew ?_) | (with_reducible refine bel_drewN ?_ _) | (with_reducible refine bel_set ?_ ?_ _) | (with_reducible refine After.out _ ?_ ?_) | (dsimp only; omega) | omega | (simp only [World.size_alloc, World.size_setCell, World.size_drew]; omega)))), LaterC.mk (by (repeat (first | (with_reducible exact Below.refl _ _) | (with_reducible assumption) | (with_reducible refine Later.out _ ?_) | (with_reducible refine bel_alloc ?_ _) | (with_reducible refine bel_drew ?_) | (with_reducible refine bel_drewN ?_ _) | (with_reducible refine bel_set ?_ ?_ _) | (with_reducible refine After.out _ ?_ ?_) | (dsimp only; omega) | omega | (simp only [World.size_alloc, World.size_setCell, World.size_drew]; omega))))⟩
              case measure => first | (simp [intOf]; done) | (simp [intOf]; omega) | omega
      · obtain rfl : i = s.size := by omega
        rw [firstL_end (Nat.le_refl _), List.append_nil] at hl
        subst hl
        go_wp2_with fail
        refine bodyPost_ret (by simp [results, Tryz.results50, go_sem, ↓IntWalk.iteOmega, *]; try rfl) rfl ?_
        refine RetOwn.mk _ rfl (own_mono ho.out (by omega)) (by (repeat (first | (with_reducible exact Below.refl _ _) | (with_reducible assumption) | (with_reducible refine Later.out _ ?_) | (with_reducible refine bel_alloc ?_ _) | (with_reducible refine bel_drew ?_) | (with_reducible refine bel_drewN ?_ _) | (with_reducible refine bel_set ?_ ?_ _) | (with_reducible refine After.out _ ?_ ?_) | (dsimp only; omega) | omega | (simp only [World.size_alloc, World.size_setCell, World.size_drew]; omega))))
  · have XK := Lib.hid (show fpK T s = false by simp [fpK, hk])
    have XL := Lib.hid (show fpL T s = [] by unfold fpL; rw [XK.out]; rfl)
    rw [XK.out, XL.out]
    have hz : ways T s 0 = 0 := by omega
    replace hz := Lib.hid hz
    clear hk w0
    go_enter Tryz.func50, Tryz.ntmps50
    go_wp2_with fail
    with_reducible refine (CW.out _ (hr.out.bel (by (repeat (first | (with_reducible exact Below.refl _ _) | (with_reducible assumption) | (with_reducible refine Later.out _ ?_) | (with_reducible refine bel_alloc ?_ _) | (with_reducible refine bel_drew ?_) | (with_reducible refine bel_drewN ?_ _) | (with_reducible refine bel_set ?_ ?_ _) | (with_reducible refine After.out _ ?_ ?_) | (dsimp only; omega) | omega | (simp only [World.size_alloc, World.size_setCell, World.size_drew]; omega)))))).mono ?_
    rintro e w' ⟨a1, c1, rfl, hown, y1, rfl⟩
    have hsy1 := y1.bel.size
    (try simp only [World.size_alloc, World.size_setCell, World.size_drew] at hsy1)
    have O1 := Lib.hid (Owns.of hown)
    clear hown
    obtain ⟨g1, rfl, lg1, lg1', hc1, -⟩ := O1.out.at_ (j := 0) (by omega)
    rw [cntL_get _ (by omega), hz.out] at hc1
    go_wp2_with fail
    refine bodyPost_ret (by simp [results, Tryz.results50, go_sem, ↓IntWalk.iteOmega, *]; try rfl) rfl ?_
    exact RetOwn.mk (.slice none 0 0) rfl (World.ownsRow_nil _ _ _ _) (by (repeat (first | (with_reducible exact Below.refl _ _) | (with_reducible assumption) | (with_reducible refine Later.out _ ?_) | (with_reducible refine bel_alloc ?_ _) | (with_reducible refine bel_drew ?_) | (with_reducible refine bel_drewN ?_ _) | (with_reducible refine bel_set ?_ ?_ _) | (with_reducible refine After.out _ ?_ ?_) | (dsimp only; omega) | omega | (simp only [World.size_alloc, World.size_setCell, World.size_drew]; omega))))
end Go.Proofs.YtemfhcmeeldngaaGreatDoor

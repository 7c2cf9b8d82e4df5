import Derived.Test.YtemfhcmeeldngaaGreatDoorSgn
import Derived.Test.YtemfhcmeeldngaaGreatDoorFirstS
/- Stable parsings and decoding, both sides. -/
set_option linter.unusedSimpArgs false
set_option linter.unusedVariables false
namespace Go.Proofs.YtemfhcmeeldngaaGreatDoor
open Go.RowKit
def noRomAt (T : List Rul) (i : Int) : Bool := match T[i.toNat]? with
  | some r => noRom r
  | none => false
theorem noRomAt_nat {T : List Rul} {k : Nat} (hk : k < T.length) : noRomAt T (k : Int) = noRom T[k] := by unfold noRomAt; rw [Int.toNat_natCast, List.getElem?_eq_getElem hk]
/-- The rules at these places are a stable parsing. -/
def stb (T : List Rul) (l : List Int) : Bool := decide (0 < l.length) && !(l.any (noRomAt T)) && decide ((signsL T l).length ≤ 12) && (used T (signsL T l)).isSome && (usL (used T (signsL T l)) == l)
theorem signsL_pos {T : List Rul} (hT : tableB T = true) : ∀ {l : List Int}, inT T l → l.length ≤ (signsL T l).length
  | [], _ => by simp
  | x :: l, h => by
    have ih := signsL_pos hT (l := l) fun y hy => h y (by simp [hy])
    have hx := h x (by simp)
    have hk : x.toNat < T.length := by omega
    have h1 := (ruleB_sizes (tableB_rule hT hk)).1
    obtain ⟨y, hy, hy2⟩ : ∃ y : List Int, signsL T (x :: l) = y ++ signsL T l ∧ 1 ≤ y.length := by
      refine ⟨T[x.toNat].sg, ?_, h1⟩
      unfold signsL
      rw [List.flatMap_cons, List.getElem?_eq_getElem hk]
    rw [hy, List.length_append, List.length_cons]
    omega
theorem enters_stable1 : ∀ args w, (callFunc 61 args).run Tryz.prog w = .ok (.enter 61 args) w := fun _ _ => by kernel_rfl
set_option maxHeartbeats 1000000 in
theorem stable1_any (T : List Rul) (k b : Nat) (aT : Option Addr) (cT : Nat) (w : World) (hk : k < T.length) (hr : RulesR w aT T) (hb : w.cell? ⟨b, 0, none⟩ = some (.slice aT T.length cT)) (hbl : b < w.heap.size) :
    Calls Tryz.prog 61 #[.int .i64 k, .pointer (some ⟨b, 0, none⟩)] w (Ret w (.bool (noRom T[k]))) := by
  obtain ⟨b1, o, ai, ci, rfl, hb1, q0, q1, -, -, -⟩ := hr.at_ hk
  have hk1 : (k : Int) < (T.length : Int) := by omega
  clear hr
  go_enter Tryz.func61, Tryz.ntmps61
  go_wp2_with fail
  go_ret
  exact .mk rfl (by (repeat (first | (with_reducible exact Below.refl _ _) | (with_reducible assumption) | (with_reducible refine Later.out _ ?_) | (with_reducible refine bel_alloc ?_ _) | (with_reducible refine bel_drew ?_) | (with_reducible refine bel_drewN ?_ _) | (with_reducible refine bel_set ?_ ?_ _) | (with_reducible refine After.out _ ?_ ?_) | (dsimp only; omega) | omega | (simp only [World.size_alloc, World.size_setCell, World.size_drew]; omega))))
theorem tells_stable1 {T : List Rul} {l : List Int} {b : Nat} {aT : Option Addr} {cT : Nat} {w : World} (hl : inT T l) (hr : RulesR w aT T) (hb : w.cell? ⟨b, 0, none⟩ = some (.slice aT T.length cT)) (hbl : b < w.heap.size) :
    TellsI 61 #[.pointer (some ⟨b, 0, none⟩)] (noRomAt T) l w := fun x hx w' hbel => by
  have h := hl x hx
  obtain ⟨k, hk, rfl⟩ : ∃ k : Nat, k < T.length ∧ x = k := ⟨x.toNat, by omega, by omega⟩
  rw [noRomAt_nat hk]
  simpa using stable1_any T k b aT cT w' hk (hr.bel hbel) ((hbel.cell hbl).trans hb) (Nat.lt_of_lt_of_le hbl hbel.size)
set_option maxRecDepth 8000 in
set_option maxHeartbeats 4000000 in
theorem isStable_any (T : List Rul) (l : List Int) (aT a : Option Addr) (nT cT n c : Nat) (w : World) (hnT : T.length = nT) (hT : tableB T = true) (hok : ∀ r ∈ T, RulOk r) (hn : l.length = n) (hm : n ≤ 4096) (hl : inT T l) (hr : RulesR w aT T) (hr' : Row w a (intCells l)) :
    Calls Tryz.prog 34 #[.slice aT nT cT, .slice a n c] w (Ret w (.bool (stb T l))) := by
  subst hnT hn
  have hlen := tableB_len hT
  have hsl := signsL_len (tab_sg hT) l
  have CS := Lib.hid (fun (w : World) (hr : RulesR w aT T) (hr' : Row w a (intCells l)) => signsOf_any T l aT a T.length cT l.length c w rfl hT rfl hm hl hr hr')
  have CU := fun (aq : Option Addr) (nq cq : Nat) (w : World) (h1 : (signsL T l).length = nq) (hnc : nq ≤ cq) (hcm : cq ≤ maxLen) (hr : RulesR w aT T) (hr' : Row w aq (intCells (signsL T l))) => used_impl T (signsL T l) aT aq T.length cT nq cq w rfl (by omega) hok h1 (by omega) hnc hcm hr hr'
  have CC := Lib.hid (fun (b : Nat) (w : World) (hr : RulesR w aT T) (hr' : Row w a (intCells l)) (hb : w.cell? ⟨b, 0, none⟩ = some (.slice aT T.length cT)) (hbl : b < w.heap.size) => containsFuncI_any 61 #[.pointer (some ⟨b, 0, none⟩)] (noRomAt T) l a l.length c w enters_stable1 rfl (by omega) hr' (tells_stable1 hl hr hb hbl))
  have hUl : ∀ u, used T (signsL T l) = u → (usL u).length ≤ 12288 := fun u hu => by
    subst hu
    unfold usL
    cases h : used T (signsL T l) with
    | none => simp
    | some x =>
      have := (usedF_len h).2.1
      simp only [Option.getD_some]
      omega
  have X : ∀ U S A, used T (signsL T l) = U → signsL T l = S → l.any (noRomAt T) = A → stb T l = (decide (0 < l.length) && !A && decide (S.length ≤ 12) && U.isSome && (usL U == l)) := fun U S A h1 h2 h3 => by subst h1 h2 h3; rfl
  obtain ⟨U, hU⟩ : ∃ U, used T (signsL T l) = U := ⟨_, rfl⟩
  have hUl2 := hUl U hU
  simp only [hU] at CU
  obtain ⟨S, hS⟩ : ∃ S, signsL T l = S := ⟨_, rfl⟩
  obtain ⟨A, hA⟩ : ∃ A, l.any (noRomAt T) = A := ⟨_, rfl⟩
  have X2 := Lib.hid (X U S A hU hS hA)
  simp only [hS] at CU CS hsl
  simp only [hA] at CC
  have hS1 : S.length ≤ 12288 := by omega
  have CE := Lib.hid (fun (aq : Option Addr) (nq cq : Nat) (w : World) (h1 : (usL U).length = nq) (hr : Row w aq (intCells (usL U))) (hr' : Row w a (intCells l)) => equalI_any (usL U) l aq a nq cq l.length c w h1 rfl (by omega) (by omega) hr hr')
  replace CU := Lib.hid CU
  replace hr := Lib.hid hr
  replace hr' := Lib.hid hr'
  clear X hU hS hA hUl hok hT hsl
  go_enter Tryz.func34, Tryz.ntmps34
  go_wp2_with fail
  with_reducible refine (CS.out _ (hr.out.bel (by (repeat (first | (with_reducible exact Below.refl _ _) | (with_reducible assumption) | (with_reducible refine Later.out _ ?_) | (with_reducible refine bel_alloc ?_ _) | (with_reducible refine bel_drew ?_) | (with_reducible refine bel_drewN ?_ _) | (with_reducible refine bel_set ?_ ?_ _) | (with_reducible refine After.out _ ?_ ?_) | (dsimp only; omega) | omega | (simp only [World.size_alloc, World.size_setCell, World.size_drew]; omega))))) (hr'.out.bel (by (repeat (first | (with_reducible exact Below.refl _ _) | (with_reducible assumption) | (with_reducible refine Later.out _ ?_) | (with_reducible refine bel_alloc ?_ _) | (with_reducible refine bel_drew ?_) | (with_reducible refine bel_drewN ?_ _) | (with_reducible refine bel_set ?_ ?_ _) | (with_reducible refine After.out _ ?_ ?_) | (dsimp only; omega) | omega | (simp only [World.size_alloc, World.size_setCell, World.size_drew]; omega)))))).mono ?_
  rintro e w' ⟨a1, c1, rfl, hown, y1, rfl⟩
  have hsy1 := y1.bel.size
  (try simp only [World.size_alloc, World.size_setCell, World.size_drew] at hsy1)
  have O1 := Lib.hid (Owns.of hown)
  clear hown
  have hcap1 := Lib.hid (ownsRow_cap O1.out.own)
  go_wp2_with fail
  with_reducible refine (CU.out _ _ _ _ rfl hcap1.out.1 hcap1.out.2 (hr.out.bel (by (repeat (first | (with_reducible exact Below.refl _ _) | (with_reducible assumption) | (with_reducible refine Later.out _ ?_) | (with_reducible refine bel_alloc ?_ _) | (with_reducible refine bel_drew ?_) | (with_reducible refine bel_drewN ?_ _) | (with_reducible refine bel_set ?_ ?_ _) | (with_reducible refine After.out _ ?_ ?_) | (dsimp only; omega) | omega | (simp only [World.size_alloc, World.size_setCell, World.size_drew]; omega))))) (O1.out.row.bel (by (repeat (first | (with_reducible exact Below.refl _ _) | (with_reducible assumption) | (with_reducible refine Later.out _ ?_) | (with_reducible refine bel_alloc ?_ _) | (with_reducible refine bel_drew ?_) | (with_reducible refine bel_drewN ?_ _) | (with_reducible refine bel_set ?_ ?_ _) | (with_reducible refine After.out _ ?_ ?_) | (dsimp only; omega) | omega | (simp only [World.size_alloc, World.size_setCell, World.size_drew]; omega)))))).mono ?_
  rintro e w' ⟨a2, c2, rfl, hown, y2, rfl⟩
  have hsy2 := y2.bel.size
  (try simp only [World.size_alloc, World.size_setCell, World.size_drew] at hsy2)
  have O2 := Lib.hid (Owns.of hown)
  clear hown
  go_wp2_with fail
  with_reducible refine (CC.out _ _ (hr.out.bel (by (repeat (first | (with_reducible exact Below.refl _ _) | (with_reducible assumption) | (with_reducible refine Later.out _ ?_) | (with_reducible refine bel_alloc ?_ _) | (with_reducible refine bel_drew ?_) | (with_reducible refine bel_drewN ?_ _) | (with_reducible refine bel_set ?_ ?_ _) | (with_reducible refine After.out _ ?_ ?_) | (dsimp only; omega) | omega | (simp only [World.size_alloc, World.size_setCell, World.size_drew]; omega))))) (hr'.out.bel (by (repeat (first | (with_reducible exact Below.refl _ _) | (with_reducible assumption) | (with_reducible refine Later.out _ ?_) | (with_reducible refine bel_alloc ?_ _) | (with_reducible refine bel_drew ?_) | (with_reducible refine bel_drewN ?_ _) | (with_reducible refine bel_set ?_ ?_ _) | (with_reducible refine After.out _ ?_ ?_) | (dsimp only; omega) | omega | (simp only [World.size_alloc, World.size_setCell, World.size_drew]; omega))))) (by simp [go_sem, ↓IntWalk.iteOmega]) (by ((try simp only [World.size_alloc, World.size_setCell, World.size_drew]); omega))).mono ?_
  rintro e w' ⟨rfl, y3, rfl⟩
  have hsy3 := y3.bel.size
  (try simp only [World.size_alloc, World.size_setCell, World.size_drew] at hsy3)
  by_cases h0 : 0 < l.length
  · have h0' : (0 : Int) < (l.length : Int) := by omega
    cases A
    · by_cases h12 : S.length ≤ 12
      · have h12' : (S.length : Int) ≤ 12 := by omega
        cases hu : U.isSome
        · have Y := Lib.hid (show stb T l = false by rw [X2.out]; simp [hu])
          clear X2
          go_wp2_with fail
          go_ret
          exact .mk (by rw [Y.out]; rfl) (by (repeat (first | (with_reducible exact Below.refl _ _) | (with_reducible assumption) | (with_reducible refine Later.out _ ?_) | (with_reducible refine bel_alloc ?_ _) | (with_reducible refine bel_drew ?_) | (with_reducible refine bel_drewN ?_ _) | (with_reducible refine bel_set ?_ ?_ _) | (with_reducible refine After.out _ ?_ ?_) | (dsimp only; omega) | omega | (simp only [World.size_alloc, World.size_setCell, World.size_drew]; omega))))
        · have Y := Lib.hid (show stb T l = (usL U == l) by rw [X2.out]; simp [hu, h0, h12])
          clear X2
          go_wp2_with fail
          with_reducible refine (CE.out _ _ _ _ rfl (O2.out.row.bel (by (repeat (first | (with_reducible exact Below.refl _ _) | (with_reducible assumption) | (with_reducible refine Later.out _ ?_) | (with_reducible refine bel_alloc ?_ _) | (with_reducible refine bel_drew ?_) | (with_reducible refine bel_drewN ?_ _) | (with_reducible refine bel_set ?_ ?_ _) | (with_reducible refine After.out _ ?_ ?_) | (dsimp only; omega) | omega | (simp only [World.size_alloc, World.size_setCell, World.size_drew]; omega))))) (hr'.out.bel (by (repeat (first | (with_reducible exact Below.refl _ _) | (with_reducible assumption) | (with_reducible refine Later.out _ ?_) | (with_reducible refine bel_alloc ?_ _) | (with_reducible refine bel_drew ?_) | (with_reducible refine bel_drewN ?_ _) | (with_reducible refine bel_set ?_ ?_ _) | (with_reducible refine After.out _ ?_ ?_) | (dsimp only; omega) | omega | (simp only [World.size_alloc, World.size_setCell, World.size_drew]; omega)))))).mono ?_
          rintro e w' ⟨rfl, y4, rfl⟩
          have hsy4 := y4.bel.size
          (try simp only [World.size_alloc, World.size_setCell, World.size_drew] at hsy4)
          go_wp2_with fail
          go_ret
          exact .mk (by rw [Y.out]; rfl) (by (repeat (first | (with_reducible exact Below.refl _ _) | (with_reducible assumption) | (with_reducible refine Later.out _ ?_) | (with_reducible refine bel_alloc ?_ _) | (with_reducible refine bel_drew ?_) | (with_reducible refine bel_drewN ?_ _) | (with_reducible refine bel_set ?_ ?_ _) | (with_reducible refine After.out _ ?_ ?_) | (dsimp only; omega) | omega | (simp only [World.size_alloc, World.size_setCell, World.size_drew]; omega))))
      · have h12' : ¬ (S.length : Int) ≤ 12 := by omega
        have Y := Lib.hid (show stb T l = false by rw [X2.out]; simp [h12])
        clear X2
        go_wp2_with fail
        go_ret
        exact .mk (by rw [Y.out]; rfl) (by (repeat (first | (with_reducible exact Below.refl _ _) | (with_reducible assumption) | (with_reducible refine Later.out _ ?_) | (with_reducible refine bel_alloc ?_ _) | (with_reducible refine bel_drew ?_) | (with_reducible refine bel_drewN ?_ _) | (with_reducible refine bel_set ?_ ?_ _) | (with_reducible refine After.out _ ?_ ?_) | (dsimp only; omega) | omega | (simp only [World.size_alloc, World.size_setCell, World.size_drew]; omega))))
    · have Y := Lib.hid (show stb T l = false by rw [X2.out]; simp)
      clear X2
      go_wp2_with fail
      go_ret
      exact .mk (by rw [Y.out]; rfl) (by (repeat (first | (with_reducible exact Below.refl _ _) | (with_reducible assumption) | (with_reducible refine Later.out _ ?_) | (with_reducible refine bel_alloc ?_ _) | (with_reducible refine bel_drew ?_) | (with_reducible refine bel_drewN ?_ _) | (with_reducible refine bel_set ?_ ?_ _) | (with_reducible refine After.out _ ?_ ?_) | (dsimp only; omega) | omega | (simp only [World.size_alloc, World.size_setCell, World.size_drew]; omega))))
  · have h0' : ¬ (0 : Int) < (l.length : Int) := by omega
    have Y := Lib.hid (show stb T l = false by rw [X2.out]; simp [h0])
    clear X2
    go_wp2_with fail
    go_ret
    exact .mk (by rw [Y.out]; rfl) (by (repeat (first | (with_reducible exact Below.refl _ _) | (with_reducible assumption) | (with_reducible refine Later.out _ ?_) | (with_reducible refine bel_alloc ?_ _) | (with_reducible refine bel_drew ?_) | (with_reducible refine bel_drewN ?_ _) | (with_reducible refine bel_set ?_ ?_ _) | (with_reducible refine After.out _ ?_ ?_) | (dsimp only; omega) | omega | (simp only [World.size_alloc, World.size_setCell, World.size_drew]; omega))))
set_option maxRecDepth 8000 in
set_option maxHeartbeats 4000000 in
theorem sStable_any (T : List Rul) (l : List Int) (aT a aq : Option Addr) (nT cT n c nq cq : Nat) (w : World) (hnT : T.length = nT) (hT : tableB T = true) (hok : ∀ r ∈ T, RulOk r) (hn : l.length = n) (hm : n ≤ 4096) (hl : inT T l) (hnq : (signsL T l).length = nq) (hncq : nq ≤ cq) (hcq : cq ≤ maxLen) (hr : RulesR w aT T) (hr' : Row w a (intCells l)) (hq : Row w aq (intCells (signsL T l))) :
    Calls Tryz.prog 36 #[.slice aT nT cT, .slice a n c, .slice aq nq cq] w (Ret w (.bool (stb T l))) := by
  subst hnT hn
  have hlen := tableB_len hT
  have hsl := signsL_len (tab_sg hT) l
  have hsp := signsL_pos hT hl
  have hsp0 : l.length = 0 → (signsL T l).length = 0 := fun h => by rw [h] at hsl; omega
  have CU := fun (w : World) (hr : RulesR w aT T) (hr' : Row w aq (intCells (signsL T l))) => used_spec T (signsL T l) aT aq T.length cT nq cq w rfl (by omega) hok hnq (by omega) hncq hcq hr hr'
  have hUl : ∀ u, used T (signsL T l) = u → (usL u).length ≤ 12288 := fun u hu => by
    subst hu
    unfold usL
    cases h : used T (signsL T l) with
    | none => simp
    | some x =>
      have := (usedF_len h).2.1
      simp only [Option.getD_some]
      omega
  have X : ∀ U S A, used T (signsL T l) = U → signsL T l = S → l.any (noRomAt T) = A → stb T l = (decide (0 < l.length) && !A && decide (S.length ≤ 12) && U.isSome && (usL U == l)) := fun U S A h1 h2 h3 => by subst h1 h2 h3; rfl
  obtain ⟨U, hU⟩ : ∃ U, used T (signsL T l) = U := ⟨_, rfl⟩
  have hUl2 := hUl U hU
  simp only [hU] at CU
  obtain ⟨S, hS⟩ : ∃ S, signsL T l = S := ⟨_, rfl⟩
  obtain ⟨A, hA⟩ : ∃ A, l.any (noRomAt T) = A := ⟨_, rfl⟩
  have X2 := Lib.hid (X U S A hU hS hA)
  rw [hS] at hnq hsp hsl hsp0 hq
  simp only [hS] at CU
  have hq1 : nq ≤ 12288 := by omega
  have CE := Lib.hid (fun (aq : Option Addr) (nq cq : Nat) (w : World) (h1 : (usL U).length = nq) (hr : Row w aq (intCells (usL U))) (hr' : Row w a (intCells l)) => sSame_any (usL U) l aq a nq cq l.length c w h1 rfl (by omega) (by omega) hr hr')
  have CI := fun (w : World) => l01In_any nq 1 12 w
  have hI : inB nq 1 12 = (decide (0 < l.length) && decide (S.length ≤ 12)) := by
    unfold inB
    rw [← hnq]
    by_cases h0 : 0 < l.length
    · have h1 : decide ((1 : Int) ≤ (S.length : Int)) = true := by rw [decide_eq_true_eq]; omega
      have h2 : decide (0 < l.length) = true := by rw [decide_eq_true_eq]; exact h0
      rw [h1, h2, Bool.true_and, Bool.true_and]
      exact decide_eq_decide.2 (by omega)
    · have h1 : S.length = 0 := hsp0 (by omega)
      simp [h0, h1]
  rw [hI] at CI
  replace CU := Lib.hid CU
  replace CI := Lib.hid CI
  replace hr := Lib.hid hr
  replace hr' := Lib.hid hr'
  replace hq := Lib.hid hq
  replace hA := Lib.hid hA
  clear X hU hS hUl hok hT hsl hsp hsp0 hI
  go_enter Tryz.func36, Tryz.ntmps36
  go_wp2_with fail
  go_loopw [7] (fun iv wr => ∃ i : Nat, i ≤ l.length ∧ iv = .int .i64 i ∧ (∀ j (hj : j < l.length), j < i → noRomAt T l[j] = false) ∧ ∃ z : Later w, wr = z.w) (fun iv _ => l.length - (intOf iv).toNat)
  case atStart => exact ⟨0, Nat.zero_le _, rfl, fun j _ h => absurd h (by omega), ⟨_, Below.refl _ _⟩, rfl⟩
  case round =>
    obtain ⟨i, hi, rfl, hall, z, rfl⟩ := hrel
    have hzz := z.bel.size
    replace hall := Lib.hid hall
    by_cases hlt : i < l.length
    · have hi1 : (i : Int) < (l.length : Int) := by omega
      obtain ⟨k, hk, e⟩ := inT_at hl hlt
      obtain ⟨bl, ol, rfl, hbl, hcl⟩ := hr'.out.int hlt
      rw [e] at hcl
      obtain ⟨b, o, ai, ci, rfl, hb, q0, q1, -, -, -⟩ := hr.out.at_ hk
      have hk1 : (k : Int) < (T.length : Int) := by omega
      have he : noRomAt T l[i] = noRom T[k] := by rw [e, noRomAt_nat hk]
      cases hv : noRom T[k]
      · have hall2 := Lib.hid (show ∀ j (hj : j < l.length), j < i + 1 → noRomAt T l[j] = false from fun j hj h => by
          rcases Nat.lt_or_ge j i with h1 | h1
          · exact hall.out j hj h1
          · obtain rfl : j = i := by omega
            rw [he, hv])
        unfold noRom at hv
        clear he e q0
        go_wp2_with fail
        go_roundw
        case rel => exact ⟨i + 1, by omega, by go_num, hall2.out, LaterC.mk (by (repeat (first | (with_reducible exact Below.refl _ _) | (with_reducible assumption) | (with_reducible refine Later.out _ ?_) | (with_reducible refine bel_alloc ?_ _) | (with_reducible refine bel_drew ?_) | (with_reducible refine bel_drewN ?_ _) | (with_reducible refine bel_set ?_ ?_ _) | (with_reducible refine After.out _ ?_ ?_) | (dsimp only; omega) | omega | (simp only [World.size_alloc, World.size_setCell, World.size_drew]; omega))))⟩
        case measure => first | (simp [intOf]; done) | (simp [intOf]; omega) | omega
      · have Y := Lib.hid (show stb T l = false by
          have : A = true := by rw [← hA.out]; exact List.any_eq_true.2 ⟨l[i], List.getElem_mem hlt, by rw [he, hv]⟩
          rw [X2.out, this]; simp)
        unfold noRom at hv
        clear he e q0 X2
        go_wp2_with fail
        go_ret
        exact .mk (by rw [Y.out]; rfl) (by (repeat (first | (with_reducible exact Below.refl _ _) | (with_reducible assumption) | (with_reducible refine Later.out _ ?_) | (with_reducible refine bel_alloc ?_ _) | (with_reducible refine bel_drew ?_) | (with_reducible refine bel_drewN ?_ _) | (with_reducible refine bel_set ?_ ?_ _) | (with_reducible refine After.out _ ?_ ?_) | (dsimp only; omega) | omega | (simp only [World.size_alloc, World.size_setCell, World.size_drew]; omega))))
    · obtain rfl : i = l.length := by omega
      have hA2 : A = false := by
        rw [← hA.out, Bool.eq_false_iff]
        intro hh
        obtain ⟨x, hx, hp⟩ := List.any_eq_true.1 hh
        obtain ⟨j, hj, rfl⟩ := List.mem_iff_getElem.1 hx
        rw [hall.out j hj hj] at hp
        cases hp
      subst hA2
      clear hA hall
      go_wp2_with fail
      with_reducible refine (CU.out _ (hr.out.bel (by (repeat (first | (with_reducible exact Below.refl _ _) | (with_reducible assumption) | (with_reducible refine Later.out _ ?_) | (with_reducible refine bel_alloc ?_ _) | (with_reducible refine bel_drew ?_) | (with_reducible refine bel_drewN ?_ _) | (with_reducible refine bel_set ?_ ?_ _) | (with_reducible refine After.out _ ?_ ?_) | (dsimp only; omega) | omega | (simp only [World.size_alloc, World.size_setCell, World.size_drew]; omega))))) (hq.out.bel (by (repeat (first | (with_reducible exact Below.refl _ _) | (with_reducible assumption) | (with_reducible refine Later.out _ ?_) | (with_reducible refine bel_alloc ?_ _) | (with_reducible refine bel_drew ?_) | (with_reducible refine bel_drewN ?_ _) | (with_reducible refine bel_set ?_ ?_ _) | (with_reducible refine After.out _ ?_ ?_) | (dsimp only; omega) | omega | (simp only [World.size_alloc, World.size_setCell, World.size_drew]; omega)))))).mono ?_
      rintro e w' ⟨a2, c2, rfl, hown, y2, rfl⟩
      have hsy2 := y2.bel.size
      (try simp only [World.size_alloc, World.size_setCell, World.size_drew] at hsy2)
      have O2 := Lib.hid (Owns.of hown)
      clear hown
      go_wp2_with fail
      with_reducible refine (CI.out _).mono ?_
      rintro e w' ⟨rfl, y3, rfl⟩
      have hsy3 := y3.bel.size
      (try simp only [World.size_alloc, World.size_setCell, World.size_drew] at hsy3)
      by_cases h0 : 0 < l.length
      · by_cases h12 : S.length ≤ 12
        · have hd : (decide (0 < l.length) && decide (S.length ≤ 12)) = true := by simp [h0, h12]
          rw [hd]
          cases hu : U.isSome
          · have Y := Lib.hid (show stb T l = false by rw [X2.out]; simp [hu])
            clear X2
            go_wp2_with fail
            go_ret
            exact .mk (by rw [Y.out]; rfl) (by (repeat (first | (with_reducible exact Below.refl _ _) | (with_reducible assumption) | (with_reducible refine Later.out _ ?_) | (with_reducible refine bel_alloc ?_ _) | (with_reducible refine bel_drew ?_) | (with_reducible refine bel_drewN ?_ _) | (with_reducible refine bel_set ?_ ?_ _) | (with_reducible refine After.out _ ?_ ?_) | (dsimp only; omega) | omega | (simp only [World.size_alloc, World.size_setCell, World.size_drew]; omega))))
          · have Y := Lib.hid (show stb T l = (usL U == l) by rw [X2.out]; simp [hu, h0, h12])
            clear X2
            go_wp2_with fail
            with_reducible refine (CE.out _ _ _ _ rfl (O2.out.row.bel (by (repeat (first | (with_reducible exact Below.refl _ _) | (with_reducible assumption) | (with_reducible refine Later.out _ ?_) | (with_reducible refine bel_alloc ?_ _) | (with_reducible refine bel_drew ?_) | (with_reducible refine bel_drewN ?_ _) | (with_reducible refine bel_set ?_ ?_ _) | (with_reducible refine After.out _ ?_ ?_) | (dsimp only; omega) | omega | (simp only [World.size_alloc, World.size_setCell, World.size_drew]; omega))))) (hr'.out.bel (by (repeat (first | (with_reducible exact Below.refl _ _) | (with_reducible assumption) | (with_reducible refine Later.out _ ?_) | (with_reducible refine bel_alloc ?_ _) | (with_reducible refine bel_drew ?_) | (with_reducible refine bel_drewN ?_ _) | (with_reducible refine bel_set ?_ ?_ _) | (with_reducible refine After.out _ ?_ ?_) | (dsimp only; omega) | omega | (simp only [World.size_alloc, World.size_setCell, World.size_drew]; omega)))))).mono ?_
            rintro e w' ⟨rfl, y4, rfl⟩
            have hsy4 := y4.bel.size
            (try simp only [World.size_alloc, World.size_setCell, World.size_drew] at hsy4)
            go_wp2_with fail
            go_ret
            exact .mk (by rw [Y.out]; rfl) (by (repeat (first | (with_reducible exact Below.refl _ _) | (with_reducible assumption) | (with_reducible refine Later.out _ ?_) | (with_reducible refine bel_alloc ?_ _) | (with_reducible refine bel_drew ?_) | (with_reducible refine bel_drewN ?_ _) | (with_reducible refine bel_set ?_ ?_ _) | (with_reducible refine After.out _ ?_ ?_) | (dsimp only; omega) | omega | (simp only [World.size_alloc, World.size_setCell, World.size_drew]; omega))))
        · have hd : (decide (0 < l.length) && decide (S.length ≤ 12)) = false := by simp [h12]
          rw [hd]
          have Y := Lib.hid (show stb T l = false by rw [X2.out]; simp [h12])
          clear X2
          go_wp2_with fail
          go_ret
          exact .mk (by rw [Y.out]; rfl) (by (repeat (first | (with_reducible exact Below.refl _ _) | (with_reducible assumption) | (with_reducible refine Later.out _ ?_) | (with_reducible refine bel_alloc ?_ _) | (with_reducible refine bel_drew ?_) | (with_reducible refine bel_drewN ?_ _) | (with_reducible refine bel_set ?_ ?_ _) | (with_reducible refine After.out _ ?_ ?_) | (dsimp only; omega) | omega | (simp only [World.size_alloc, World.size_setCell, World.size_drew]; omega))))
      · have hd : (decide (0 < l.length) && decide (S.length ≤ 12)) = false := by simp [h0]
        rw [hd]
        have Y := Lib.hid (show stb T l = false by rw [X2.out]; simp [h0])
        clear X2
        go_wp2_with fail
        go_ret
        exact .mk (by rw [Y.out]; rfl) (by (repeat (first | (with_reducible exact Below.refl _ _) | (with_reducible assumption) | (with_reducible refine Later.out _ ?_) | (with_reducible refine bel_alloc ?_ _) | (with_reducible refine bel_drew ?_) | (with_reducible refine bel_drewN ?_ _) | (with_reducible refine bel_set ?_ ?_ _) | (with_reducible refine After.out _ ?_ ?_) | (dsimp only; omega) | omega | (simp only [World.size_alloc, World.size_setCell, World.size_drew]; omega))))
end Go.Proofs.YtemfhcmeeldngaaGreatDoor

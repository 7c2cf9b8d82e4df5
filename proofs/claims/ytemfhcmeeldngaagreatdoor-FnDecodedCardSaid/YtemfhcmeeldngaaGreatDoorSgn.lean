import Derived.Test.YtemfhcmeeldngaaGreatDoorUseS
import Derived.Test.YtemfhcmeeldngaaGreatDoorPackPb
/- The signs and texts of rules by their places, both sides. -/
set_option linter.unusedSimpArgs false
set_option linter.unusedVariables false
namespace Go.Proofs.YtemfhcmeeldngaaGreatDoor
open Go.RowKit
/-- All numbers are places of rules. -/
def inT (T : List Rul) (l : List Int) : Prop := ∀ x ∈ l, 0 ≤ x ∧ x < T.length
theorem inT_at {T : List Rul} {l : List Int} (h : inT T l) {i : Nat} (hi : i < l.length) : ∃ k : Nat, ∃ hk : k < T.length, l[i] = k := by
  obtain ⟨h1, h2⟩ := h _ (List.getElem_mem hi)
  exact ⟨l[i].toNat, by omega, by omega⟩
theorem signsL_len {T : List Rul} (hT : ∀ r ∈ T, r.sg.length ≤ 3) : ∀ l : List Int, (signsL T l).length ≤ 3 * l.length
  | [] => by simp [signsL]
  | x :: l => by
    have ih := signsL_len hT l
    obtain ⟨y, hy, hy2⟩ : ∃ y : List Int, signsL T (x :: l) = y ++ signsL T l ∧ y.length ≤ 3 := by
      refine ⟨_, by unfold signsL; rw [List.flatMap_cons], ?_⟩
      cases h : T[x.toNat]? with
      | none => simp
      | some r => exact hT r (List.mem_of_getElem? h)
    rw [hy, List.length_append]
    rw [List.length_cons]; omega
theorem romL_len {T : List Rul} (hT : ∀ r ∈ T, r.rom.size ≤ 4) : ∀ l : List Int, (romL T l).size ≤ 4 * l.length := by
  have key : ∀ (l : List Int) (acc : ByteArray), (l.foldl (fun t i => match T[i.toNat]? with | some r => t ++ r.rom | none => t) acc).size ≤ acc.size + 4 * l.length := by
    intro l
    induction l with
    | nil => intro acc; simp
    | cons x l ih =>
      intro acc
      rw [List.foldl_cons, List.length_cons]
      refine Nat.le_trans (ih _) ?_
      cases h : T[x.toNat]? with
      | none => dsimp only; omega
      | some r =>
        have := hT r (List.mem_of_getElem? h)
        dsimp only
        rw [ByteArray.size_append]
        omega
  intro l
  refine Nat.le_trans (key l ByteArray.empty) ?_
  have e : ByteArray.empty.size = 0 := rfl
  omega
theorem tab_sg {T : List Rul} (h : tableB T = true) : ∀ r ∈ T, r.sg.length ≤ 3 := fun r hr => by
  obtain ⟨i, hi, rfl⟩ := List.mem_iff_getElem.1 hr
  exact (ruleB_sizes (tableB_rule h hi)).2.1
theorem tab_rom {T : List Rul} (h : tableB T = true) : ∀ r ∈ T, r.rom.size ≤ 4 := fun r hr => by
  obtain ⟨i, hi, rfl⟩ := List.mem_iff_getElem.1 hr
  exact (ruleB_sizes (tableB_rule h hi)).2.2
theorem intCells_append (a b : List Int) : intCells (a ++ b) = intCells a ++ intCells b := by simp [intCells]
theorem one_ints (l : List Int) : ∀ u ∈ intCells l, u.oneCell' = true := by
  intro u hu
  unfold intCells at hu
  obtain ⟨x, _, rfl⟩ := List.mem_map.1 hu
  rfl
set_option maxRecDepth 8000 in
set_option maxHeartbeats 4000000 in
theorem signsOf_any (T : List Rul) (l : List Int) (aT a : Option Addr) (nT cT n c : Nat) (w : World) (hnT : T.length = nT) (hT : tableB T = true) (hn : l.length = n) (hm : n ≤ 4096) (hl : inT T l) (hr : RulesR w aT T) (hr' : Row w a (intCells l)) :
    Calls Tryz.prog 37 #[.slice aT nT cT, .slice a n c] w (RetOwn w 2 1 (signsL T l).length (intCells (signsL T l)) id) := by
  subst hnT hn
  obtain ⟨ii, j1, j2, j3, j4⟩ := info_i64'
  have Jii := Lib.hid (And.intro j1 (And.intro j2 (And.intro j3 j4)))
  have hlen := tableB_len hT
  have hsl := Lib.hid (signsL_len (tab_sg hT))
  have hsg := Lib.hid (tab_sg hT)
  replace hr := Lib.hid hr
  replace hr' := Lib.hid hr'
  clear j1 j2 j3 j4 hT
  go_enter Tryz.func37, Tryz.ntmps37
  go_wp2_with fail
  go_loopw [5, 10] (fun ov iv wr => ∃ (i m : Nat) (al : Option Addr) (cl : Nat), i ≤ l.length ∧ iv = .int .i64 i ∧ ov = .slice al m cl ∧ m = (signsL T (l.take i)).length ∧ wr.ownsRow w.heap.size 2 1 (.slice al m cl) m (intCells (signsL T (l.take i))) ∧ ∃ z : Later w, wr = z.w) (fun _ iv _ => l.length - (intOf iv).toNat)
  case atStart => exact ⟨0, 0, none, 0, Nat.zero_le _, rfl, rfl, by simp [signsL], by simpa [signsL, intCells] using World.ownsRow_nil _ _ _ _, ⟨_, Below.refl _ _⟩, rfl⟩
  case round =>
    obtain ⟨i, m, al, cl, hi, rfl, rfl, hm1, ho, z, rfl⟩ := hrel
    have hzz := z.bel.size
    replace ho := Lib.hid ho
    by_cases hlt : i < l.length
    · have hi1 : (i : Int) < (l.length : Int) := by omega
      obtain ⟨k, hk, e⟩ := inT_at hl hlt
      obtain ⟨bl, ol, rfl, hbl, hcl⟩ := hr'.out.int hlt
      rw [e] at hcl
      obtain ⟨b, o, ai, ci, rfl, hb, q0, q1, q2, q3, q4⟩ := hr.out.at_ hk
      have hk1 : (k : Int) < (T.length : Int) := by omega
      have ht := signsL_take hlt e hk
      have hs3 := hsg.out _ (List.getElem_mem hk)
      have hm2 := hsl.out (l.take i)
      rw [← hm1, List.length_take] at hm2
      have hm3 : m ≤ 12288 := by omega
      obtain ⟨ex, hex⟩ : ∃ ex, T[k].sg.length = ex := ⟨_, rfl⟩
      rw [hex] at q0 hs3
      have hex2 : (intCells T[k].sg).length = ex * 1 := by rw [Nat.mul_one, ← hex]; simp [intCells]
      have hm4 : (intCells (signsL T (l.take i))).length = m * 1 := by rw [Nat.mul_one, hm1]; simp [intCells]
      replace q2 := Lib.hid q2
      replace ht := Lib.hid ht
      have hm1' := Lib.hid hm1
      replace hex := Lib.hid hex
      clear q1 q3 q4 hm2 hm1
      go_wp2_with (at_builtin; (refine wpList_append_later _ rfl _ _ _ rfl 2 ii _ 1 8 Tryz.underlying25 Jii.out.1 Jii.out.2.1 Jii.out.2.2.1 Jii.out.2.2.2 rfl (by decide) (w) ?qa1 _ _ _ (intCells (signsL T (l.take i))) rfl ?qa2 _ _ _ (intCells T[k].sg) rfl ?qa3 ?qa4 ?qa5 ?qa6 ?qa7 ?_); (case qa1 => (repeat (first | (with_reducible exact Below.refl _ _) | (with_reducible assumption) | (with_reducible refine Later.out _ ?_) | (with_reducible refine bel_alloc ?_ _) | (with_reducible refine bel_drew ?_) | (with_reducible refine bel_drewN ?_ _) | (with_reducible refine bel_set ?_ ?_ _) | (with_reducible refine After.out _ ?_ ?_) | (dsimp only; omega) | omega | (simp only [World.size_alloc, World.size_setCell, World.size_drew]; omega)))); (case qa2 => exact own_bel ho.out (by (repeat (first | (with_reducible exact Below.refl _ _) | (with_reducible assumption) | (with_reducible refine Later.out _ ?_) | (with_reducible refine bel_alloc ?_ _) | (with_reducible refine bel_drew ?_) | (with_reducible refine bel_drewN ?_ _) | (with_reducible refine bel_set ?_ ?_ _) | (with_reducible refine After.out _ ?_ ?_) | (dsimp only; omega) | omega | (simp only [World.size_alloc, World.size_setCell, World.size_drew]; omega))))); (case qa3 => (first | rfl | (simp [boolCells]; done) | (simp [intCells]; done) | (simp; done) | (first | omega | (simp only [List.length_append, List.length_cons, List.length_nil]; omega)))); (case qa4 => exact q2.out.bel (by (repeat (first | (with_reducible exact Below.refl _ _) | (with_reducible assumption) | (with_reducible refine Later.out _ ?_) | (with_reducible refine bel_alloc ?_ _) | (with_reducible refine bel_drew ?_) | (with_reducible refine bel_drewN ?_ _) | (with_reducible refine bel_set ?_ ?_ _) | (with_reducible refine After.out _ ?_ ?_) | (dsimp only; omega) | omega | (simp only [World.size_alloc, World.size_setCell, World.size_drew]; omega))))); (case qa5 => exact one_ints _); (case qa6 => (unfold maxLen; (first | omega | (simp only [List.length_append, List.length_cons, List.length_nil]; omega)))); (case qa7 => (first | omega | (simp only [List.length_append, List.length_cons, List.length_nil]; omega))); intro a9 c9 x9 hown9; replace hown9 := Lib.hid hown9; have hs9 := x9.bel.size; (try simp only [World.size_alloc] at hs9))
      go_roundw
      case rel =>
        refine ⟨i + 1, m + ex, a9, c9, by omega, by go_num, rfl, ?_, ?_, x9, rfl⟩
        · rw [ht.out, List.length_append, hex.out, ← hm1'.out]
        · rw [ht.out, intCells_append]
          exact hown9.out
      case measure => first | (simp [intOf]; done) | (simp [intOf]; omega) | omega
    · obtain rfl : i = l.length := by omega
      rw [List.take_length] at hm1 ho
      go_wp2_with fail
      go_ret
      rw [← hm1]
      exact RetOwn.mk (.slice al m cl) rfl ho.out (by (repeat (first | (with_reducible exact Below.refl _ _) | (with_reducible assumption) | (with_reducible refine Later.out _ ?_) | (with_reducible refine bel_alloc ?_ _) | (with_reducible refine bel_drew ?_) | (with_reducible refine bel_drewN ?_ _) | (with_reducible refine bel_set ?_ ?_ _) | (with_reducible refine After.out _ ?_ ?_) | (dsimp only; omega) | omega | (simp only [World.size_alloc, World.size_setCell, World.size_drew]; omega))))
/-- The code of a table and places. -/
def sgC (T : List Rul) (l : List Int) : Int := if tableB T then (if decide (l.length ≤ 48) && l.all fun x => inB x 0 ((T.length : Int) - 1) then 0 else 2) else 1
def sgR (T : List Rul) (l : List Int) : List Int := if sgC T l = 0 then signsL T l else []
theorem sgC_ok {T : List Rul} {l : List Int} (hT : tableB T = true) (hl : inT T l) (h : l.length ≤ 48) : sgC T l = 0 := by
  unfold sgC
  rw [if_pos hT, if_pos]
  rw [Bool.and_eq_true, decide_eq_true_eq, List.all_eq_true]
  exact ⟨h, fun x hx => by have := hl x hx; rw [inB_iff]; omega⟩
set_option maxRecDepth 8000 in
set_option maxHeartbeats 4000000 in
theorem sSigns5_any (T : List Rul) (l : List Int) (aT a : Option Addr) (nT cT n c : Nat) (w : World) (hnT : T.length = nT) (hmT : nT ≤ 1048576) (hok : ∀ r ∈ T, RulOk r) (hn : l.length = n) (hm : n ≤ 1048576) (hr : RulesR w aT T) (hr' : Row w a (intCells l)) :
    Calls Tryz.prog 35 #[.slice aT nT cT, .slice a n c] w (RetOwn w 2 1 (sgR T l).length (intCells (sgR T l)) fun v => .tuple #[v, .int .i64 (sgC T l)]) := by
  subst hnT hn
  have CT := fun (w : World) (hr : RulesR w aT T) => sIsTable_any T aT T.length cT w rfl hmT hok hr
  replace hr := Lib.hid hr
  replace hr' := Lib.hid hr'
  cases hT : tableB T
  · have hc : sgC T l = 1 := by simp [sgC, hT]
    have hR : sgR T l = [] := by simp [sgR, hc]
    rw [hc, hR]
    rw [hT] at CT
    replace CT := Lib.hid CT
    clear hc hR hok hT
    go_enter Tryz.func35, Tryz.ntmps35
    go_wp2_with fail
    with_reducible refine (CT.out _ (hr.out.bel (by (repeat (first | (with_reducible exact Below.refl _ _) | (with_reducible assumption) | (with_reducible refine Later.out _ ?_) | (with_reducible refine bel_alloc ?_ _) | (with_reducible refine bel_drew ?_) | (with_reducible refine bel_drewN ?_ _) | (with_reducible refine bel_set ?_ ?_ _) | (with_reducible refine After.out _ ?_ ?_) | (dsimp only; omega) | omega | (simp only [World.size_alloc, World.size_setCell, World.size_drew]; omega)))))).mono ?_
    rintro e w' ⟨rfl, y1, rfl⟩
    have hsy1 := y1.bel.size
    (try simp only [World.size_alloc, World.size_setCell, World.size_drew] at hsy1)
    go_wp2_with fail
    refine bodyPost_ret (by simp [results, Tryz.results35, go_sem, ↓IntWalk.iteOmega, *]; try rfl) rfl ?_
    exact RetOwn.mk (.slice none 0 0) rfl (World.ownsRow_nil _ _ _ _) (by (repeat (first | (with_reducible exact Below.refl _ _) | (with_reducible assumption) | (with_reducible refine Later.out _ ?_) | (with_reducible refine bel_alloc ?_ _) | (with_reducible refine bel_drew ?_) | (with_reducible refine bel_drewN ?_ _) | (with_reducible refine bel_set ?_ ?_ _) | (with_reducible refine After.out _ ?_ ?_) | (dsimp only; omega) | omega | (simp only [World.size_alloc, World.size_setCell, World.size_drew]; omega))))
  · rw [hT] at CT
    replace CT := Lib.hid CT
    have hlen := tableB_len hT
    have hsl := Lib.hid (signsL_len (tab_sg hT))
    have hsg := Lib.hid (tab_sg hT)
    by_cases h48 : l.length ≤ 48
    · have h48' : ¬ (48 : Int) < (l.length : Int) := by omega
      obtain ⟨C0, hC0⟩ : ∃ C0, sgC T l = C0 := ⟨_, rfl⟩
      obtain ⟨R0, hR0⟩ : ∃ R0, sgR T l = R0 := ⟨_, rfl⟩
      rw [hC0, hR0]
      have hbad := Lib.hid (show (¬ ∀ x ∈ l, inB x 0 ((T.length : Int) - 1) = true) → C0 = 2 ∧ R0 = [] from fun h => by
        have hc : sgC T l = 2 := by
          unfold sgC
          rw [if_pos hT, if_neg]
          rw [Bool.and_eq_true, List.all_eq_true]
          exact fun hh => h hh.2
        have hR : sgR T l = [] := by simp [sgR, hc]
        exact ⟨hC0 ▸ hc, hR0 ▸ hR⟩)
      have hgood := Lib.hid (show (∀ x ∈ l, inB x 0 ((T.length : Int) - 1) = true) → C0 = 0 ∧ R0 = signsL T l from fun h => by
        have hc : sgC T l = 0 := by
          unfold sgC
          rw [if_pos hT, if_pos]
          rw [Bool.and_eq_true, decide_eq_true_eq, List.all_eq_true]
          exact ⟨h48, h⟩
        have hR : sgR T l = signsL T l := by simp [sgR, hc]
        exact ⟨hC0 ▸ hc, hR0 ▸ hR⟩)
      obtain ⟨ii, j1, j2, j3, j4⟩ := info_i64'
      have Jii := Lib.hid (And.intro j1 (And.intro j2 (And.intro j3 j4)))
      clear hok hT hC0 hR0 j1 j2 j3 j4
      go_enter Tryz.func35, Tryz.ntmps35
      go_wp2_with fail
      with_reducible refine (CT.out _ (hr.out.bel (by (repeat (first | (with_reducible exact Below.refl _ _) | (with_reducible assumption) | (with_reducible refine Later.out _ ?_) | (with_reducible refine bel_alloc ?_ _) | (with_reducible refine bel_drew ?_) | (with_reducible refine bel_drewN ?_ _) | (with_reducible refine bel_set ?_ ?_ _) | (with_reducible refine After.out _ ?_ ?_) | (dsimp only; omega) | omega | (simp only [World.size_alloc, World.size_setCell, World.size_drew]; omega)))))).mono ?_
      rintro e w' ⟨rfl, y1, rfl⟩
      have hsy1 := y1.bel.size
      (try simp only [World.size_alloc, World.size_setCell, World.size_drew] at hsy1)
      have HO := Lib.hid (World.ownsRow_lit (base := w.heap.size) (e := 2) (size := 1) y1.w #[] 0 hsy1 (by unfold maxLen; omega) rfl)
      go_wp2_with fail
      go_loopw [6, 7] (fun ov iv wr => ∃ (i m : Nat) (al : Option Addr) (cl : Nat), i ≤ l.length ∧ iv = .int .i64 i ∧ ov = .slice al m cl ∧ m = (signsL T (l.take i)).length ∧ (∀ j (hj : j < l.length), j < i → inB l[j] 0 ((T.length : Int) - 1) = true) ∧ wr.ownsRow w.heap.size 2 1 (.slice al m cl) m (intCells (signsL T (l.take i))) ∧ ∃ z : Later w, wr = z.w) (fun _ iv _ => l.length - (intOf iv).toNat)
      case atStart => exact ⟨0, 0, _, _, Nat.zero_le _, rfl, rfl, by simp [signsL], fun j _ h => absurd h (by omega), by simpa [signsL, intCells] using HO.out, LaterC.mk (by (repeat (first | (with_reducible exact Below.refl _ _) | (with_reducible assumption) | (with_reducible refine Later.out _ ?_) | (with_reducible refine bel_alloc ?_ _) | (with_reducible refine bel_drew ?_) | (with_reducible refine bel_drewN ?_ _) | (with_reducible refine bel_set ?_ ?_ _) | (with_reducible refine After.out _ ?_ ?_) | (dsimp only; omega) | omega | (simp only [World.size_alloc, World.size_setCell, World.size_drew]; omega))))⟩
      case round =>
        obtain ⟨i, m, al, cl, hi, rfl, rfl, hm1, hall, ho, z, rfl⟩ := hrel
        have hzz := z.bel.size
        replace ho := Lib.hid ho
        by_cases hlt : i < l.length
        · have hi1 : (i : Int) < (l.length : Int) := by omega
          obtain ⟨bl, ol, rfl, hbl, hcl⟩ := hr'.out.int hlt
          have CL := fun (w : World) => l01In_any l[i] 0 ((T.length : Int) - 1) w
          cases hv : inB l[i] 0 ((T.length : Int) - 1)
          · rw [hv] at CL
            obtain ⟨rfl, rfl⟩ := hbad.out fun h => by rw [h _ (List.getElem_mem hlt)] at hv; cases hv
            obtain ⟨x, hx⟩ : ∃ x, l[i] = x := ⟨_, rfl⟩
            rw [hx] at hcl CL
            replace CL := Lib.hid CL
            clear hv hall hm1 hx
            go_wp2_with (go_at_call 62; (with_reducible refine (CL.out _).mono ?_); rintro e w' ⟨rfl, y2, rfl⟩; have hsy2 := y2.bel.size)
            refine bodyPost_ret (by simp [results, Tryz.results35, go_sem, ↓IntWalk.iteOmega, *]; try rfl) rfl ?_
            exact RetOwn.mk (.slice none 0 0) rfl (World.ownsRow_nil _ _ _ _) (by (repeat (first | (with_reducible exact Below.refl _ _) | (with_reducible assumption) | (with_reducible refine Later.out _ ?_) | (with_reducible refine bel_alloc ?_ _) | (with_reducible refine bel_drew ?_) | (with_reducible refine bel_drewN ?_ _) | (with_reducible refine bel_set ?_ ?_ _) | (with_reducible refine After.out _ ?_ ?_) | (dsimp only; omega) | omega | (simp only [World.size_alloc, World.size_setCell, World.size_drew]; omega))))
          · have hb2 := inB_iff.1 hv
            obtain ⟨k, hk, e⟩ : ∃ k : Nat, ∃ hk : k < T.length, l[i] = k := ⟨l[i].toNat, by omega, by omega⟩
            have hall2 := Lib.hid (show ∀ j (hj : j < l.length), j < i + 1 → inB l[j] 0 ((T.length : Int) - 1) = true from fun j hj h => by
              rcases Nat.lt_or_ge j i with h1 | h1
              · exact hall j hj h1
              · obtain rfl : j = i := by omega
                exact hv)
            rw [hv] at CL
            rw [e] at hcl CL
            obtain ⟨b, o, ai, ci, rfl, hb, q0, q1, q2, q3, q4⟩ := hr.out.at_ hk
            have hk1 : (k : Int) < (T.length : Int) := by omega
            have ht := signsL_take hlt e hk
            have hs3 := hsg.out _ (List.getElem_mem hk)
            have hm2 := hsl.out (l.take i)
            rw [← hm1, List.length_take] at hm2
            have hm3 : m ≤ 12288 := by omega
            obtain ⟨ex, hex⟩ : ∃ ex, T[k].sg.length = ex := ⟨_, rfl⟩
            rw [hex] at q0 hs3
            have hex2 : (intCells T[k].sg).length = ex * 1 := by rw [Nat.mul_one, ← hex]; simp [intCells]
            have hm4 : (intCells (signsL T (l.take i))).length = m * 1 := by rw [Nat.mul_one, hm1]; simp [intCells]
            replace q2 := Lib.hid q2
            replace ht := Lib.hid ht
            have hm1' := Lib.hid hm1
            replace hex := Lib.hid hex
            replace CL := Lib.hid CL
            clear q1 q3 q4 hm2 hm1 hv hb2 e hall
            go_wp2_with (first | (go_at_call 62; (with_reducible refine (CL.out _).mono ?_); rintro e w' ⟨rfl, y2, rfl⟩; have hsy2 := y2.bel.size) | (at_builtin; (refine wpList_append_later _ rfl _ _ _ rfl 2 ii _ 1 8 Tryz.underlying25 Jii.out.1 Jii.out.2.1 Jii.out.2.2.1 Jii.out.2.2.2 rfl (by decide) (w) ?qa8 _ _ _ (intCells (signsL T (l.take i))) rfl ?qa9 _ _ _ (intCells T[k].sg) rfl ?qa10 ?qa11 ?qa12 ?qa13 ?qa14 ?_); (case qa8 => (repeat (first | (with_reducible exact Below.refl _ _) | (with_reducible assumption) | (with_reducible refine Later.out _ ?_) | (with_reducible refine bel_alloc ?_ _) | (with_reducible refine bel_drew ?_) | (with_reducible refine bel_drewN ?_ _) | (with_reducible refine bel_set ?_ ?_ _) | (with_reducible refine After.out _ ?_ ?_) | (dsimp only; omega) | omega | (simp only [World.size_alloc, World.size_setCell, World.size_drew]; omega)))); (case qa9 => exact own_bel ho.out (by (repeat (first | (with_reducible exact Below.refl _ _) | (with_reducible assumption) | (with_reducible refine Later.out _ ?_) | (with_reducible refine bel_alloc ?_ _) | (with_reducible refine bel_drew ?_) | (with_reducible refine bel_drewN ?_ _) | (with_reducible refine bel_set ?_ ?_ _) | (with_reducible refine After.out _ ?_ ?_) | (dsimp only; omega) | omega | (simp only [World.size_alloc, World.size_setCell, World.size_drew]; omega))))); (case qa10 => (first | rfl | (simp [boolCells]; done) | (simp [intCells]; done) | (simp; done) | (first | omega | (simp only [List.length_append, List.length_cons, List.length_nil]; omega)))); (case qa11 => exact q2.out.bel (by (repeat (first | (with_reducible exact Below.refl _ _) | (with_reducible assumption) | (with_reducible refine Later.out _ ?_) | (with_reducible refine bel_alloc ?_ _) | (with_reducible refine bel_drew ?_) | (with_reducible refine bel_drewN ?_ _) | (with_reducible refine bel_set ?_ ?_ _) | (with_reducible refine After.out _ ?_ ?_) | (dsimp only; omega) | omega | (simp only [World.size_alloc, World.size_setCell, World.size_drew]; omega))))); (case qa12 => exact one_ints _); (case qa13 => (unfold maxLen; (first | omega | (simp only [List.length_append, List.length_cons, List.length_nil]; omega)))); (case qa14 => (first | omega | (simp only [List.length_append, List.length_cons, List.length_nil]; omega))); intro a9 c9 x9 hown9; replace hown9 := Lib.hid hown9; have hs9 := x9.bel.size; (try simp only [World.size_alloc] at hs9)))
            go_roundw
            case rel =>
              refine ⟨i + 1, m + ex, a9, c9, by omega, by go_num, rfl, ?_, hall2.out, ?_, x9, rfl⟩
              · rw [ht.out, List.length_append, hex.out, ← hm1'.out]
              · rw [ht.out, intCells_append]
                exact hown9.out
            case measure => first | (simp [intOf]; done) | (simp [intOf]; omega) | omega
        · obtain rfl : i = l.length := by omega
          obtain ⟨rfl, rfl⟩ := hgood.out fun x hx => by
            obtain ⟨j, hj, rfl⟩ := List.mem_iff_getElem.1 hx
            exact hall j hj hj
          rw [List.take_length] at hm1 ho
          clear hall
          go_wp2_with fail
          refine bodyPost_ret (by simp [results, Tryz.results35, go_sem, ↓IntWalk.iteOmega, *]; try rfl) rfl ?_
          rw [← hm1]
          exact RetOwn.mk (.slice al m cl) rfl ho.out (by (repeat (first | (with_reducible exact Below.refl _ _) | (with_reducible assumption) | (with_reducible refine Later.out _ ?_) | (with_reducible refine bel_alloc ?_ _) | (with_reducible refine bel_drew ?_) | (with_reducible refine bel_drewN ?_ _) | (with_reducible refine bel_set ?_ ?_ _) | (with_reducible refine After.out _ ?_ ?_) | (dsimp only; omega) | omega | (simp only [World.size_alloc, World.size_setCell, World.size_drew]; omega))))
    · have h48' : (48 : Int) < (l.length : Int) := by omega
      have hc : sgC T l = 2 := by simp [sgC, hT]; omega
      have hR : sgR T l = [] := by simp [sgR, hc]
      rw [hc, hR]
      clear hc hR hok hT
      go_enter Tryz.func35, Tryz.ntmps35
      go_wp2_with fail
      with_reducible refine (CT.out _ (hr.out.bel (by (repeat (first | (with_reducible exact Below.refl _ _) | (with_reducible assumption) | (with_reducible refine Later.out _ ?_) | (with_reducible refine bel_alloc ?_ _) | (with_reducible refine bel_drew ?_) | (with_reducible refine bel_drewN ?_ _) | (with_reducible refine bel_set ?_ ?_ _) | (with_reducible refine After.out _ ?_ ?_) | (dsimp only; omega) | omega | (simp only [World.size_alloc, World.size_setCell, World.size_drew]; omega)))))).mono ?_
      rintro e w' ⟨rfl, y1, rfl⟩
      have hsy1 := y1.bel.size
      (try simp only [World.size_alloc, World.size_setCell, World.size_drew] at hsy1)
      go_wp2_with fail
      refine bodyPost_ret (by simp [results, Tryz.results35, go_sem, ↓IntWalk.iteOmega, *]; try rfl) rfl ?_
      exact RetOwn.mk (.slice none 0 0) rfl (World.ownsRow_nil _ _ _ _) (by (repeat (first | (with_reducible exact Below.refl _ _) | (with_reducible assumption) | (with_reducible refine Later.out _ ?_) | (with_reducible refine bel_alloc ?_ _) | (with_reducible refine bel_drew ?_) | (with_reducible refine bel_drewN ?_ _) | (with_reducible refine bel_set ?_ ?_ _) | (with_reducible refine After.out _ ?_ ?_) | (dsimp only; omega) | omega | (simp only [World.size_alloc, World.size_setCell, World.size_drew]; omega))))
end Go.Proofs.YtemfhcmeeldngaaGreatDoor

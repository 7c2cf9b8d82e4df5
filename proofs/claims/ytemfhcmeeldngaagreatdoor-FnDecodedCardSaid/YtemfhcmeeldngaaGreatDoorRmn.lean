import Derived.Test.YtemfhcmeeldngaaGreatDoorSgn
/- Romanisations, both sides. -/
set_option linter.unusedSimpArgs false
set_option linter.unusedVariables false
namespace Go.Proofs.YtemfhcmeeldngaaGreatDoor
open Go.RowKit
theorem romL_zero (T : List Rul) (l : List Int) : romL T (l.take 0) = ByteArray.empty := by simp [romL]
theorem used_in {T : List Rul} {s l : List Int} (h : used T s = some l) : inT T l := (usedF_len h).2.2
theorem usL_in (T : List Rul) (s : List Int) : inT T (usL (used T s)) ∧ (usL (used T s)).length ≤ s.length := by
  cases h : used T s with
  | none => exact ⟨fun x hx => by simp [usL] at hx, by simp [usL]⟩
  | some l => exact ⟨used_in h, (usedF_len h).2.1⟩
set_option maxRecDepth 8000 in
set_option maxHeartbeats 4000000 in
theorem romanOf_any (T : List Rul) (l : List Int) (aT a : Option Addr) (nT cT n c : Nat) (w : World) (hnT : T.length = nT) (hT : tableB T = true) (hn : l.length = n) (hm : n ≤ 4096) (hl : inT T l) (hr : RulesR w aT T) (hr' : Row w a (intCells l)) :
    Calls Tryz.prog 39 #[.slice aT nT cT, .slice a n c] w (Ret w (.string (romL T l))) := by
  subst hnT hn
  have hlen := tableB_len hT
  have hsl := Lib.hid (romL_len (tab_rom hT))
  have hsg := Lib.hid (tab_rom hT)
  replace hr := Lib.hid hr
  replace hr' := Lib.hid hr'
  clear hT
  go_enter Tryz.func39, Tryz.ntmps39
  go_wp2_with fail
  go_loopw [5, 10] (fun ov iv wr => ∃ (i : Nat) (t : ByteArray), i ≤ l.length ∧ iv = .int .i64 i ∧ ov = .string t ∧ t = romL T (l.take i) ∧ ∃ z : Later w, wr = z.w) (fun _ iv _ => l.length - (intOf iv).toNat)
  case atStart => exact ⟨0, _, Nat.zero_le _, rfl, rfl, by rw [romL_zero]; rfl, ⟨_, Below.refl _ _⟩, rfl⟩
  case round =>
    obtain ⟨i, t, hi, rfl, rfl, ht0, z, rfl⟩ := hrel
    have hzz := z.bel.size
    by_cases hlt : i < l.length
    · have hi1 : (i : Int) < (l.length : Int) := by omega
      obtain ⟨k, hk, e⟩ := inT_at hl hlt
      obtain ⟨bl, ol, rfl, hbl, hcl⟩ := hr'.out.int hlt
      rw [e] at hcl
      obtain ⟨b, o, ai, ci, rfl, hb, q0, q1, -, -, -⟩ := hr.out.at_ hk
      have hk1 : (k : Int) < (T.length : Int) := by omega
      have ht := romL_take hlt e hk
      have hs3 := hsg.out _ (List.getElem_mem hk)
      have hm2 := hsl.out (l.take i)
      rw [← ht0, List.length_take] at hm2
      have hov : t.size + T[k].rom.size ≤ 9223372036854775807 := by omega
      have hov2 : t.size + T[k].rom.size < 9223372036854775808 := by omega
      rw [← ht0] at ht
      replace ht := Lib.hid ht
      replace ht0 := Lib.hid ht0
      clear hm2 e q0
      go_wp2_with fail
      go_roundw
      case rel => exact ⟨i + 1, _, by omega, by go_num, rfl, ht.out.symm, LaterC.mk (by (repeat (first | (with_reducible exact Below.refl _ _) | (with_reducible assumption) | (with_reducible refine Later.out _ ?_) | (with_reducible refine bel_alloc ?_ _) | (with_reducible refine bel_drew ?_) | (with_reducible refine bel_drewN ?_ _) | (with_reducible refine bel_set ?_ ?_ _) | (with_reducible refine After.out _ ?_ ?_) | (dsimp only; omega) | omega | (simp only [World.size_alloc, World.size_setCell, World.size_drew]; omega))))⟩
      case measure => first | (simp [intOf]; done) | (simp [intOf]; omega) | omega
    · obtain rfl : i = l.length := by omega
      rw [List.take_length] at ht0
      have X := Lib.hid ht0
      clear ht0
      go_wp2_with fail
      go_ret
      exact .mk (by rw [← X.out]; rfl) (by (repeat (first | (with_reducible exact Below.refl _ _) | (with_reducible assumption) | (with_reducible refine Later.out _ ?_) | (with_reducible refine bel_alloc ?_ _) | (with_reducible refine bel_drew ?_) | (with_reducible refine bel_drewN ?_ _) | (with_reducible refine bel_set ?_ ?_ _) | (with_reducible refine After.out _ ?_ ?_) | (dsimp only; omega) | omega | (simp only [World.size_alloc, World.size_setCell, World.size_drew]; omega))))
set_option maxRecDepth 8000 in
set_option maxHeartbeats 4000000 in
theorem sRoman_any (T : List Rul) (s : List Int) (aT a : Option Addr) (nT cT n c : Nat) (w : World) (hnT : T.length = nT) (hT : tableB T = true) (hok : ∀ r ∈ T, RulOk r) (hn : s.length = n) (hm : n ≤ 4096) (hnc : n ≤ c) (hcm : c ≤ maxLen) (hr : RulesR w aT T) (hr' : Row w a (intCells s)) :
    Calls Tryz.prog 47 #[.slice aT nT cT, .slice a n c] w (Ret w (.tuple #[.string (romL T (usL (used T s))), .bool (used T s).isSome])) := by
  subst hnT hn
  have hlen := tableB_len hT
  have CU := fun (w : World) (hr : RulesR w aT T) (hr' : Row w a (intCells s)) => used_spec T s aT a T.length cT s.length c w rfl (by omega) hok rfl (by omega) hnc hcm hr hr'
  obtain ⟨hl, hll⟩ := usL_in T s
  obtain ⟨B, hB⟩ : ∃ B, (used T s).isSome = B := ⟨_, rfl⟩
  obtain ⟨l, hle⟩ : ∃ l, usL (used T s) = l := ⟨_, rfl⟩
  simp only [hB, hle] at CU hl hll ⊢
  have hsl := Lib.hid (romL_len (tab_rom hT))
  have hsg := Lib.hid (tab_rom hT)
  replace hr := Lib.hid hr
  replace hr' := Lib.hid hr'
  replace CU := Lib.hid CU
  clear hT hok hB hle
  go_enter Tryz.func47, Tryz.ntmps47
  go_wp2_with fail
  with_reducible refine (CU.out _ (hr.out.bel (by (repeat (first | (with_reducible exact Below.refl _ _) | (with_reducible assumption) | (with_reducible refine Later.out _ ?_) | (with_reducible refine bel_alloc ?_ _) | (with_reducible refine bel_drew ?_) | (with_reducible refine bel_drewN ?_ _) | (with_reducible refine bel_set ?_ ?_ _) | (with_reducible refine After.out _ ?_ ?_) | (dsimp only; omega) | omega | (simp only [World.size_alloc, World.size_setCell, World.size_drew]; omega))))) (hr'.out.bel (by (repeat (first | (with_reducible exact Below.refl _ _) | (with_reducible assumption) | (with_reducible refine Later.out _ ?_) | (with_reducible refine bel_alloc ?_ _) | (with_reducible refine bel_drew ?_) | (with_reducible refine bel_drewN ?_ _) | (with_reducible refine bel_set ?_ ?_ _) | (with_reducible refine After.out _ ?_ ?_) | (dsimp only; omega) | omega | (simp only [World.size_alloc, World.size_setCell, World.size_drew]; omega)))))).mono ?_
  rintro e w' ⟨a1, c1, rfl, hown, y1, rfl⟩
  have hsy1 := y1.bel.size
  (try simp only [World.size_alloc, World.size_setCell, World.size_drew] at hsy1)
  have O1 := Lib.hid (Owns.of hown)
  clear hown
  go_wp2_with fail
  go_loopw [8, 9] (fun ov iv wr => ∃ (i : Nat) (t : ByteArray), i ≤ l.length ∧ iv = .int .i64 i ∧ ov = .string t ∧ t = romL T (l.take i) ∧ ∃ z : Later y1.w, wr = z.w) (fun _ iv _ => l.length - (intOf iv).toNat)
  case atStart => exact ⟨0, _, Nat.zero_le _, rfl, rfl, by rw [romL_zero]; rfl, ⟨_, Below.refl _ _⟩, rfl⟩
  case round =>
    obtain ⟨i, t, hi, rfl, rfl, ht0, z, rfl⟩ := hrel
    have hzz := z.bel.size
    by_cases hlt : i < l.length
    · have hi1 : (i : Int) < (l.length : Int) := by omega
      obtain ⟨k, hk, e⟩ := inT_at hl hlt
      obtain ⟨bl, ol, rfl, hbl, hcl⟩ := O1.out.row.int hlt
      rw [e] at hcl
      obtain ⟨b, o, ai, ci, rfl, hb, q0, q1, -, -, -⟩ := hr.out.at_ hk
      have hk1 : (k : Int) < (T.length : Int) := by omega
      have ht := romL_take hlt e hk
      have hs3 := hsg.out _ (List.getElem_mem hk)
      have hm2 := hsl.out (l.take i)
      rw [← ht0, List.length_take] at hm2
      have hov : t.size + T[k].rom.size ≤ 9223372036854775807 := by omega
      have hov2 : t.size + T[k].rom.size < 9223372036854775808 := by omega
      have hby : b < y1.w.heap.size := by omega
      rw [← ht0] at ht
      replace ht := Lib.hid ht
      replace ht0 := Lib.hid ht0
      clear hm2 e q0
      go_wp2_with fail
      go_roundw
      case rel => exact ⟨i + 1, _, by omega, by go_num, rfl, ht.out.symm, LaterC.mk (by (repeat (first | (with_reducible exact Below.refl _ _) | (with_reducible assumption) | (with_reducible refine Later.out _ ?_) | (with_reducible refine bel_alloc ?_ _) | (with_reducible refine bel_drew ?_) | (with_reducible refine bel_drewN ?_ _) | (with_reducible refine bel_set ?_ ?_ _) | (with_reducible refine After.out _ ?_ ?_) | (dsimp only; omega) | omega | (simp only [World.size_alloc, World.size_setCell, World.size_drew]; omega))))⟩
      case measure => first | (simp [intOf]; done) | (simp [intOf]; omega) | omega
    · obtain rfl : i = l.length := by omega
      rw [List.take_length] at ht0
      have X := Lib.hid ht0
      clear ht0
      go_wp2_with fail
      refine bodyPost_ret (by simp [results, Tryz.results47, go_sem, ↓IntWalk.iteOmega, *]; try rfl) rfl ?_
      exact .mk (by rw [← X.out]) (by (repeat (first | (with_reducible exact Below.refl _ _) | (with_reducible assumption) | (with_reducible refine Later.out _ ?_) | (with_reducible refine bel_alloc ?_ _) | (with_reducible refine bel_drew ?_) | (with_reducible refine bel_drewN ?_ _) | (with_reducible refine bel_set ?_ ?_ _) | (with_reducible refine After.out _ ?_ ?_) | (dsimp only; omega) | omega | (simp only [World.size_alloc, World.size_setCell, World.size_drew]; omega))))
/-! ### With codes -/
def ruC (T : List Rul) (s : List Int) : Int := if tableB T && signsB s 12 then (if (used T s).isSome then 0 else 4) else 1
def ruL (T : List Rul) (s : List Int) : List Int := if ruC T s = 0 then usL (used T s) else []
def ruT (T : List Rul) (s : List Int) : ByteArray := romL T (ruL T s)
theorem signsB_len {l : List Int} {m : Int} (h : signsB l m = true) : 1 ≤ l.length ∧ (l.length : Int) ≤ m := by
  unfold signsB at h
  rw [Bool.and_eq_true, inB_iff] at h
  omega
theorem ruL_in (T : List Rul) (s : List Int) : inT T (ruL T s) := by
  unfold ruL
  split
  · exact (usL_in T s).1
  · intro x hx; cases hx
theorem ruL_len (T : List Rul) (s : List Int) : (ruL T s).length ≤ 12 := by
  unfold ruL
  split
  · rename_i h
    have h1 := (usL_in T s).2
    have h2 : signsB s 12 = true := by
      cases h3 : signsB s 12
      · simp [ruC, h3] at h
      · rfl
    have := signsB_len h2
    omega
  · simp
theorem ruT_len (T : List Rul) (s : List Int) : (ruT T s).size ≤ 48 := by
  by_cases h : tableB T = true
  · have h1 := romL_len (tab_rom h) (ruL T s)
    have h2 := ruL_len T s
    unfold ruT
    omega
  · have : ruL T s = [] := by
      unfold ruL ruC
      simp [h]
    unfold ruT
    rw [this]
    exact Nat.zero_le 48
set_option maxRecDepth 8000 in
set_option maxHeartbeats 4000000 in
theorem usedRules_any (T : List Rul) (s : List Int) (aT a : Option Addr) (nT cT n c : Nat) (w : World) (hnT : T.length = nT) (hmT : nT ≤ 1048576) (hncT : nT ≤ cT) (hcmT : cT ≤ maxLen) (hok : ∀ r ∈ T, RulOk r) (hn : s.length = n) (hm : n ≤ 1048576) (hnc : n ≤ c) (hcm : c ≤ maxLen) (hr : RulesR w aT T) (hr' : Row w a (intCells s)) :
    Calls Tryz.prog 38 #[.slice aT nT cT, .slice a n c] w (RetOwn w 2 1 (ruL T s).length (intCells (ruL T s)) fun v => .tuple #[v, .int .i64 (ruC T s)]) := by
  subst hnT hn
  have CT := fun (w : World) (hr : RulesR w aT T) => isTable_any T aT T.length cT w rfl hmT hncT hcmT hok hr
  have CS := fun (w : World) (hr' : Row w a (intCells s)) => areSigns_any s 12 a s.length c w rfl hm hr'
  have CU := fun (w : World) (hr : RulesR w aT T) (hr' : Row w a (intCells s)) => used_impl T s aT a T.length cT s.length c w rfl hmT hok rfl hm hnc hcm hr hr'
  replace hr := Lib.hid hr
  replace hr' := Lib.hid hr'
  cases hT : tableB T
  · rw [show ruL T s = [] by simp [ruL, ruC, hT], show ruC T s = 1 by simp [ruC, hT]]
    rw [hT] at CT
    replace CT := Lib.hid CT
    clear hok hT CS CU
    go_enter Tryz.func38, Tryz.ntmps38
    go_wp2_with fail
    with_reducible refine (CT.out _ (hr.out.bel (by (repeat (first | (with_reducible exact Below.refl _ _) | (with_reducible assumption) | (with_reducible refine Later.out _ ?_) | (with_reducible refine bel_alloc ?_ _) | (with_reducible refine bel_drew ?_) | (with_reducible refine bel_drewN ?_ _) | (with_reducible refine bel_set ?_ ?_ _) | (with_reducible refine After.out _ ?_ ?_) | (dsimp only; omega) | omega | (simp only [World.size_alloc, World.size_setCell, World.size_drew]; omega)))))).mono ?_
    rintro e w' ⟨rfl, y1, rfl⟩
    have hsy1 := y1.bel.size
    (try simp only [World.size_alloc, World.size_setCell, World.size_drew] at hsy1)
    go_wp2_with fail
    refine bodyPost_ret (by simp [results, Tryz.results38, go_sem, ↓IntWalk.iteOmega, *]; try rfl) rfl ?_
    exact RetOwn.mk (.slice none 0 0) rfl (World.ownsRow_nil _ _ _ _) (by (repeat (first | (with_reducible exact Below.refl _ _) | (with_reducible assumption) | (with_reducible refine Later.out _ ?_) | (with_reducible refine bel_alloc ?_ _) | (with_reducible refine bel_drew ?_) | (with_reducible refine bel_drewN ?_ _) | (with_reducible refine bel_set ?_ ?_ _) | (with_reducible refine After.out _ ?_ ?_) | (dsimp only; omega) | omega | (simp only [World.size_alloc, World.size_setCell, World.size_drew]; omega))))
  · rw [hT] at CT
    cases hs : signsB s 12
    · rw [show ruL T s = [] by simp [ruL, ruC, hT, hs], show ruC T s = 1 by simp [ruC, hT, hs]]
      rw [hs] at CS
      replace CT := Lib.hid CT
      replace CS := Lib.hid CS
      clear hok hT CU hs
      go_enter Tryz.func38, Tryz.ntmps38
      go_wp2_with fail
      with_reducible refine (CT.out _ (hr.out.bel (by (repeat (first | (with_reducible exact Below.refl _ _) | (with_reducible assumption) | (with_reducible refine Later.out _ ?_) | (with_reducible refine bel_alloc ?_ _) | (with_reducible refine bel_drew ?_) | (with_reducible refine bel_drewN ?_ _) | (with_reducible refine bel_set ?_ ?_ _) | (with_reducible refine After.out _ ?_ ?_) | (dsimp only; omega) | omega | (simp only [World.size_alloc, World.size_setCell, World.size_drew]; omega)))))).mono ?_
      rintro e w' ⟨rfl, y1, rfl⟩
      have hsy1 := y1.bel.size
      (try simp only [World.size_alloc, World.size_setCell, World.size_drew] at hsy1)
      go_wp2_with fail
      with_reducible refine (CS.out _ (hr'.out.bel (by (repeat (first | (with_reducible exact Below.refl _ _) | (with_reducible assumption) | (with_reducible refine Later.out _ ?_) | (with_reducible refine bel_alloc ?_ _) | (with_reducible refine bel_drew ?_) | (with_reducible refine bel_drewN ?_ _) | (with_reducible refine bel_set ?_ ?_ _) | (with_reducible refine After.out _ ?_ ?_) | (dsimp only; omega) | omega | (simp only [World.size_alloc, World.size_setCell, World.size_drew]; omega)))))).mono ?_
      rintro e w' ⟨rfl, y2, rfl⟩
      have hsy2 := y2.bel.size
      (try simp only [World.size_alloc, World.size_setCell, World.size_drew] at hsy2)
      go_wp2_with fail
      refine bodyPost_ret (by simp [results, Tryz.results38, go_sem, ↓IntWalk.iteOmega, *]; try rfl) rfl ?_
      exact RetOwn.mk (.slice none 0 0) rfl (World.ownsRow_nil _ _ _ _) (by (repeat (first | (with_reducible exact Below.refl _ _) | (with_reducible assumption) | (with_reducible refine Later.out _ ?_) | (with_reducible refine bel_alloc ?_ _) | (with_reducible refine bel_drew ?_) | (with_reducible refine bel_drewN ?_ _) | (with_reducible refine bel_set ?_ ?_ _) | (with_reducible refine After.out _ ?_ ?_) | (dsimp only; omega) | omega | (simp only [World.size_alloc, World.size_setCell, World.size_drew]; omega))))
    · rw [hs] at CS
      cases hu : (used T s).isSome
      · rw [show ruL T s = [] by simp [ruL, ruC, hT, hs, hu], show ruC T s = 4 by simp [ruC, hT, hs, hu]]
        rw [hu] at CU
        obtain ⟨l, hle⟩ : ∃ l, usL (used T s) = l := ⟨_, rfl⟩
        simp only [hle] at CU
        replace CT := Lib.hid CT
        replace CS := Lib.hid CS
        replace CU := Lib.hid CU
        clear hok hT hs hu hle
        go_enter Tryz.func38, Tryz.ntmps38
        go_wp2_with fail
        with_reducible refine (CT.out _ (hr.out.bel (by (repeat (first | (with_reducible exact Below.refl _ _) | (with_reducible assumption) | (with_reducible refine Later.out _ ?_) | (with_reducible refine bel_alloc ?_ _) | (with_reducible refine bel_drew ?_) | (with_reducible refine bel_drewN ?_ _) | (with_reducible refine bel_set ?_ ?_ _) | (with_reducible refine After.out _ ?_ ?_) | (dsimp only; omega) | omega | (simp only [World.size_alloc, World.size_setCell, World.size_drew]; omega)))))).mono ?_
        rintro e w' ⟨rfl, y1, rfl⟩
        have hsy1 := y1.bel.size
        (try simp only [World.size_alloc, World.size_setCell, World.size_drew] at hsy1)
        go_wp2_with fail
        with_reducible refine (CS.out _ (hr'.out.bel (by (repeat (first | (with_reducible exact Below.refl _ _) | (with_reducible assumption) | (with_reducible refine Later.out _ ?_) | (with_reducible refine bel_alloc ?_ _) | (with_reducible refine bel_drew ?_) | (with_reducible refine bel_drewN ?_ _) | (with_reducible refine bel_set ?_ ?_ _) | (with_reducible refine After.out _ ?_ ?_) | (dsimp only; omega) | omega | (simp only [World.size_alloc, World.size_setCell, World.size_drew]; omega)))))).mono ?_
        rintro e w' ⟨rfl, y2, rfl⟩
        have hsy2 := y2.bel.size
        (try simp only [World.size_alloc, World.size_setCell, World.size_drew] at hsy2)
        go_wp2_with fail
        with_reducible refine (CU.out _ (hr.out.bel (by (repeat (first | (with_reducible exact Below.refl _ _) | (with_reducible assumption) | (with_reducible refine Later.out _ ?_) | (with_reducible refine bel_alloc ?_ _) | (with_reducible refine bel_drew ?_) | (with_reducible refine bel_drewN ?_ _) | (with_reducible refine bel_set ?_ ?_ _) | (with_reducible refine After.out _ ?_ ?_) | (dsimp only; omega) | omega | (simp only [World.size_alloc, World.size_setCell, World.size_drew]; omega))))) (hr'.out.bel (by (repeat (first | (with_reducible exact Below.refl _ _) | (with_reducible assumption) | (with_reducible refine Later.out _ ?_) | (with_reducible refine bel_alloc ?_ _) | (with_reducible refine bel_drew ?_) | (with_reducible refine bel_drewN ?_ _) | (with_reducible refine bel_set ?_ ?_ _) | (with_reducible refine After.out _ ?_ ?_) | (dsimp only; omega) | omega | (simp only [World.size_alloc, World.size_setCell, World.size_drew]; omega)))))).mono ?_
        rintro e w' ⟨a3, c3, rfl, hown, y3, rfl⟩
        have hsy3 := y3.bel.size
        (try simp only [World.size_alloc, World.size_setCell, World.size_drew] at hsy3)
        have O3 := Lib.hid (Owns.of hown)
        clear hown
        go_wp2_with fail
        refine bodyPost_ret (by simp [results, Tryz.results38, go_sem, ↓IntWalk.iteOmega, *]; try rfl) rfl ?_
        exact RetOwn.mk (.slice none 0 0) rfl (World.ownsRow_nil _ _ _ _) (by (repeat (first | (with_reducible exact Below.refl _ _) | (with_reducible assumption) | (with_reducible refine Later.out _ ?_) | (with_reducible refine bel_alloc ?_ _) | (with_reducible refine bel_drew ?_) | (with_reducible refine bel_drewN ?_ _) | (with_reducible refine bel_set ?_ ?_ _) | (with_reducible refine After.out _ ?_ ?_) | (dsimp only; omega) | omega | (simp only [World.size_alloc, World.size_setCell, World.size_drew]; omega))))
      · rw [show ruL T s = usL (used T s) by simp [ruL, ruC, hT, hs, hu], show ruC T s = 0 by simp [ruC, hT, hs, hu]]
        rw [hu] at CU
        obtain ⟨l, hle⟩ : ∃ l, usL (used T s) = l := ⟨_, rfl⟩
        simp only [hle] at CU ⊢
        replace CT := Lib.hid CT
        replace CS := Lib.hid CS
        replace CU := Lib.hid CU
        clear hok hT hs hu hle
        go_enter Tryz.func38, Tryz.ntmps38
        go_wp2_with fail
        with_reducible refine (CT.out _ (hr.out.bel (by (repeat (first | (with_reducible exact Below.refl _ _) | (with_reducible assumption) | (with_reducible refine Later.out _ ?_) | (with_reducible refine bel_alloc ?_ _) | (with_reducible refine bel_drew ?_) | (with_reducible refine bel_drewN ?_ _) | (with_reducible refine bel_set ?_ ?_ _) | (with_reducible refine After.out _ ?_ ?_) | (dsimp only; omega) | omega | (simp only [World.size_alloc, World.size_setCell, World.size_drew]; omega)))))).mono ?_
        rintro e w' ⟨rfl, y1, rfl⟩
        have hsy1 := y1.bel.size
        (try simp only [World.size_alloc, World.size_setCell, World.size_drew] at hsy1)
        go_wp2_with fail
        with_reducible refine (CS.out _ (hr'.out.bel (by (repeat (first | (with_reducible exact Below.refl _ _) | (with_reducible assumption) | (with_reducible refine Later.out _ ?_) | (with_reducible refine bel_alloc ?_ _) | (with_reducible refine bel_drew ?_) | (with_reducible refine bel_drewN ?_ _) | (with_reducible refine bel_set ?_ ?_ _) | (with_reducible refine After.out _ ?_ ?_) | (dsimp only; omega) | omega | (simp only [World.size_alloc, World.size_setCell, World.size_drew]; omega)))))).mono ?_
        rintro e w' ⟨rfl, y2, rfl⟩
        have hsy2 := y2.bel.size
        (try simp only [World.size_alloc, World.size_setCell, World.size_drew] at hsy2)
        go_wp2_with fail
        with_reducible refine (CU.out _ (hr.out.bel (by (repeat (first | (with_reducible exact Below.refl _ _) | (with_reducible assumption) | (with_reducible refine Later.out _ ?_) | (with_reducible refine bel_alloc ?_ _) | (with_reducible refine bel_drew ?_) | (with_reducible refine bel_drewN ?_ _) | (with_reducible refine bel_set ?_ ?_ _) | (with_reducible refine After.out _ ?_ ?_) | (dsimp only; omega) | omega | (simp only [World.size_alloc, World.size_setCell, World.size_drew]; omega))))) (hr'.out.bel (by (repeat (first | (with_reducible exact Below.refl _ _) | (with_reducible assumption) | (with_reducible refine Later.out _ ?_) | (with_reducible refine bel_alloc ?_ _) | (with_reducible refine bel_drew ?_) | (with_reducible refine bel_drewN ?_ _) | (with_reducible refine bel_set ?_ ?_ _) | (with_reducible refine After.out _ ?_ ?_) | (dsimp only; omega) | omega | (simp only [World.size_alloc, World.size_setCell, World.size_drew]; omega)))))).mono ?_
        rintro e w' ⟨a3, c3, rfl, hown, y3, rfl⟩
        have hsy3 := y3.bel.size
        (try simp only [World.size_alloc, World.size_setCell, World.size_drew] at hsy3)
        have O3 := Lib.hid (Owns.of hown)
        clear hown
        go_wp2_with fail
        refine bodyPost_ret (by simp [results, Tryz.results38, go_sem, ↓IntWalk.iteOmega, *]; try rfl) rfl ?_
        exact RetOwn.mk _ rfl (own_mono O3.out.own (by ((try simp only [World.size_alloc, World.size_setCell, World.size_drew]); omega))) (by (repeat (first | (with_reducible exact Below.refl _ _) | (with_reducible assumption) | (with_reducible refine Later.out _ ?_) | (with_reducible refine bel_alloc ?_ _) | (with_reducible refine bel_drew ?_) | (with_reducible refine bel_drewN ?_ _) | (with_reducible refine bel_set ?_ ?_ _) | (with_reducible refine After.out _ ?_ ?_) | (dsimp only; omega) | omega | (simp only [World.size_alloc, World.size_setCell, World.size_drew]; omega))))
set_option maxRecDepth 8000 in
set_option maxHeartbeats 4000000 in
theorem romanise_impl (T : List Rul) (s : List Int) (aT a : Option Addr) (nT cT n c : Nat) (w : World) (hnT : T.length = nT) (hmT : nT ≤ 1048576) (hncT : nT ≤ cT) (hcmT : cT ≤ maxLen) (hok : ∀ r ∈ T, RulOk r) (hn : s.length = n) (hm : n ≤ 1048576) (hnc : n ≤ c) (hcm : c ≤ maxLen) (hr : RulesR w aT T) (hr' : Row w a (intCells s)) :
    Calls Tryz.prog 17 #[.slice aT nT cT, .slice a n c] w (Ret w (.tuple #[.string (ruT T s), .int .i64 (ruC T s)])) := by
  subst hnT hn
  have CU := fun (w : World) (hr : RulesR w aT T) (hr' : Row w a (intCells s)) => usedRules_any T s aT a T.length cT s.length c w rfl hmT hncT hcmT hok rfl hm hnc hcm hr hr'
  have hin := ruL_in T s
  have hlen := ruL_len T s
  have hsz : ruL T s = [] ∨ tableB T = true := by
    cases hT : tableB T
    · exact .inl (by simp [ruL, ruC, hT])
    · exact .inr rfl
  have hTl : romL T (ruL T s) = ruT T s := rfl
  have CR : ∀ (aq : Option Addr) (nq cq : Nat) (w : World), (ruL T s).length = nq → RulesR w aT T → Row w aq (intCells (ruL T s)) → Calls Tryz.prog 39 #[.slice aT T.length cT, .slice aq nq cq] w (Ret w (.string (ruT T s))) := fun aq nq cq w h1 hr hr' => by
    rw [← hTl]
    rcases hsz with h | h
    · rw [h] at h1 ⊢
      subst h1
      clear hr hr' hin hlen hTl h CU hok
      go_enter Tryz.func39, Tryz.ntmps39
      go_wp2_with fail
      go_loopw [5, 10] (fun ov iv wr => iv = .int .i64 0 ∧ ov = .string ⟨#[]⟩ ∧ ∃ z : Later w, wr = z.w) (fun _ _ _ => 0)
      case atStart => exact ⟨rfl, rfl, ⟨_, Below.refl _ _⟩, rfl⟩
      case round =>
        obtain ⟨rfl, rfl, z, rfl⟩ := hrel
        go_wp2_with fail
        go_ret
        exact .mk rfl (by (repeat (first | (with_reducible exact Below.refl _ _) | (with_reducible assumption) | (with_reducible refine Later.out _ ?_) | (with_reducible refine bel_alloc ?_ _) | (with_reducible refine bel_drew ?_) | (with_reducible refine bel_drewN ?_ _) | (with_reducible refine bel_set ?_ ?_ _) | (with_reducible refine After.out _ ?_ ?_) | (dsimp only; omega) | omega | (simp only [World.size_alloc, World.size_setCell, World.size_drew]; omega))))
    · exact romanOf_any T _ aT aq T.length cT nq cq w rfl h h1 (by omega) hin hr hr'
  obtain ⟨l, hle⟩ : ∃ l, ruL T s = l := ⟨_, rfl⟩
  obtain ⟨t, hte⟩ : ∃ t, ruT T s = t := ⟨_, rfl⟩
  obtain ⟨C, hC⟩ : ∃ C, ruC T s = C := ⟨_, rfl⟩
  simp only [hle, hC, hte] at CU CR ⊢
  replace CU := Lib.hid CU
  replace CR := Lib.hid CR
  replace hr := Lib.hid hr
  replace hr' := Lib.hid hr'
  clear hok hin hlen hTl hle hte hC
  go_enter Tryz.func17, Tryz.ntmps17
  go_wp2_with fail
  with_reducible refine (CU.out _ (hr.out.bel (by (repeat (first | (with_reducible exact Below.refl _ _) | (with_reducible assumption) | (with_reducible refine Later.out _ ?_) | (with_reducible refine bel_alloc ?_ _) | (with_reducible refine bel_drew ?_) | (with_reducible refine bel_drewN ?_ _) | (with_reducible refine bel_set ?_ ?_ _) | (with_reducible refine After.out _ ?_ ?_) | (dsimp only; omega) | omega | (simp only [World.size_alloc, World.size_setCell, World.size_drew]; omega))))) (hr'.out.bel (by (repeat (first | (with_reducible exact Below.refl _ _) | (with_reducible assumption) | (with_reducible refine Later.out _ ?_) | (with_reducible refine bel_alloc ?_ _) | (with_reducible refine bel_drew ?_) | (with_reducible refine bel_drewN ?_ _) | (with_reducible refine bel_set ?_ ?_ _) | (with_reducible refine After.out _ ?_ ?_) | (dsimp only; omega) | omega | (simp only [World.size_alloc, World.size_setCell, World.size_drew]; omega)))))).mono ?_
  rintro e w' ⟨a1, c1, rfl, hown, y1, rfl⟩
  have hsy1 := y1.bel.size
  (try simp only [World.size_alloc, World.size_setCell, World.size_drew] at hsy1)
  have O1 := Lib.hid (Owns.of hown)
  clear hown
  go_wp2_with fail
  with_reducible refine (CR.out _ _ _ _ rfl (hr.out.bel (by (repeat (first | (with_reducible exact Below.refl _ _) | (with_reducible assumption) | (with_reducible refine Later.out _ ?_) | (with_reducible refine bel_alloc ?_ _) | (with_reducible refine bel_drew ?_) | (with_reducible refine bel_drewN ?_ _) | (with_reducible refine bel_set ?_ ?_ _) | (with_reducible refine After.out _ ?_ ?_) | (dsimp only; omega) | omega | (simp only [World.size_alloc, World.size_setCell, World.size_drew]; omega))))) (O1.out.row.bel (by (repeat (first | (with_reducible exact Below.refl _ _) | (with_reducible assumption) | (with_reducible refine Later.out _ ?_) | (with_reducible refine bel_alloc ?_ _) | (with_reducible refine bel_drew ?_) | (with_reducible refine bel_drewN ?_ _) | (with_reducible refine bel_set ?_ ?_ _) | (with_reducible refine After.out _ ?_ ?_) | (dsimp only; omega) | omega | (simp only [World.size_alloc, World.size_setCell, World.size_drew]; omega)))))).mono ?_
  rintro e w' ⟨rfl, y2, rfl⟩
  have hsy2 := y2.bel.size
  (try simp only [World.size_alloc, World.size_setCell, World.size_drew] at hsy2)
  go_wp2_with fail
  refine bodyPost_ret (by simp [results, Tryz.results17, go_sem, ↓IntWalk.iteOmega, *]; try rfl) rfl ?_
  exact .mk rfl (by (repeat (first | (with_reducible exact Below.refl _ _) | (with_reducible assumption) | (with_reducible refine Later.out _ ?_) | (with_reducible refine bel_alloc ?_ _) | (with_reducible refine bel_drew ?_) | (with_reducible refine bel_drewN ?_ _) | (with_reducible refine bel_set ?_ ?_ _) | (with_reducible refine After.out _ ?_ ?_) | (dsimp only; omega) | omega | (simp only [World.size_alloc, World.size_setCell, World.size_drew]; omega))))
set_option maxRecDepth 8000 in
set_option maxHeartbeats 4000000 in
theorem sCode4_any (T : List Rul) (s : List Int) (aT a : Option Addr) (nT cT n c : Nat) (w : World) (hnT : T.length = nT) (hmT : nT ≤ 1048576) (hok : ∀ r ∈ T, RulOk r) (hn : s.length = n) (hm : n ≤ 1048576) (hr : RulesR w aT T) (hr' : Row w a (intCells s)) :
    Calls Tryz.prog 46 #[.slice aT nT cT, .slice a n c] w (Ret w (.int .i64 (if tableB T && signsB s 12 then 0 else 1))) := by
  subst hnT hn
  have CT := fun (w : World) (hr : RulesR w aT T) => sIsTable_any T aT T.length cT w rfl hmT hok hr
  have CS := fun (w : World) (hr' : Row w a (intCells s)) => sSigns_any s 12 a s.length c w rfl hm hr'
  replace hr := Lib.hid hr
  replace hr' := Lib.hid hr'
  cases hT : tableB T
  · rw [hT] at CT
    replace CT := Lib.hid CT
    clear hok hT CS
    go_enter Tryz.func46, Tryz.ntmps46
    go_wp2_with fail
    with_reducible refine (CT.out _ (hr.out.bel (by (repeat (first | (with_reducible exact Below.refl _ _) | (with_reducible assumption) | (with_reducible refine Later.out _ ?_) | (with_reducible refine bel_alloc ?_ _) | (with_reducible refine bel_drew ?_) | (with_reducible refine bel_drewN ?_ _) | (with_reducible refine bel_set ?_ ?_ _) | (with_reducible refine After.out _ ?_ ?_) | (dsimp only; omega) | omega | (simp only [World.size_alloc, World.size_setCell, World.size_drew]; omega)))))).mono ?_
    rintro e w' ⟨rfl, y1, rfl⟩
    have hsy1 := y1.bel.size
    (try simp only [World.size_alloc, World.size_setCell, World.size_drew] at hsy1)
    go_wp2_with fail
    go_ret
    exact .mk rfl (by (repeat (first | (with_reducible exact Below.refl _ _) | (with_reducible assumption) | (with_reducible refine Later.out _ ?_) | (with_reducible refine bel_alloc ?_ _) | (with_reducible refine bel_drew ?_) | (with_reducible refine bel_drewN ?_ _) | (with_reducible refine bel_set ?_ ?_ _) | (with_reducible refine After.out _ ?_ ?_) | (dsimp only; omega) | omega | (simp only [World.size_alloc, World.size_setCell, World.size_drew]; omega))))
  · rw [hT] at CT
    cases hs : signsB s 12
    · rw [hs] at CS
      replace CT := Lib.hid CT
      replace CS := Lib.hid CS
      clear hok hT hs
      go_enter Tryz.func46, Tryz.ntmps46
      go_wp2_with fail
      with_reducible refine (CT.out _ (hr.out.bel (by (repeat (first | (with_reducible exact Below.refl _ _) | (with_reducible assumption) | (with_reducible refine Later.out _ ?_) | (with_reducible refine bel_alloc ?_ _) | (with_reducible refine bel_drew ?_) | (with_reducible refine bel_drewN ?_ _) | (with_reducible refine bel_set ?_ ?_ _) | (with_reducible refine After.out _ ?_ ?_) | (dsimp only; omega) | omega | (simp only [World.size_alloc, World.size_setCell, World.size_drew]; omega)))))).mono ?_
      rintro e w' ⟨rfl, y1, rfl⟩
      have hsy1 := y1.bel.size
      (try simp only [World.size_alloc, World.size_setCell, World.size_drew] at hsy1)
      go_wp2_with fail
      with_reducible refine (CS.out _ (hr'.out.bel (by (repeat (first | (with_reducible exact Below.refl _ _) | (with_reducible assumption) | (with_reducible refine Later.out _ ?_) | (with_reducible refine bel_alloc ?_ _) | (with_reducible refine bel_drew ?_) | (with_reducible refine bel_drewN ?_ _) | (with_reducible refine bel_set ?_ ?_ _) | (with_reducible refine After.out _ ?_ ?_) | (dsimp only; omega) | omega | (simp only [World.size_alloc, World.size_setCell, World.size_drew]; omega)))))).mono ?_
      rintro e w' ⟨rfl, y2, rfl⟩
      have hsy2 := y2.bel.size
      (try simp only [World.size_alloc, World.size_setCell, World.size_drew] at hsy2)
      go_wp2_with fail
      go_ret
      exact .mk rfl (by (repeat (first | (with_reducible exact Below.refl _ _) | (with_reducible assumption) | (with_reducible refine Later.out _ ?_) | (with_reducible refine bel_alloc ?_ _) | (with_reducible refine bel_drew ?_) | (with_reducible refine bel_drewN ?_ _) | (with_reducible refine bel_set ?_ ?_ _) | (with_reducible refine After.out _ ?_ ?_) | (dsimp only; omega) | omega | (simp only [World.size_alloc, World.size_setCell, World.size_drew]; omega))))
    · rw [hs] at CS
      replace CT := Lib.hid CT
      replace CS := Lib.hid CS
      clear hok hT hs
      go_enter Tryz.func46, Tryz.ntmps46
      go_wp2_with fail
      with_reducible refine (CT.out _ (hr.out.bel (by (repeat (first | (with_reducible exact Below.refl _ _) | (with_reducible assumption) | (with_reducible refine Later.out _ ?_) | (with_reducible refine bel_alloc ?_ _) | (with_reducible refine bel_drew ?_) | (with_reducible refine bel_drewN ?_ _) | (with_reducible refine bel_set ?_ ?_ _) | (with_reducible refine After.out _ ?_ ?_) | (dsimp only; omega) | omega | (simp only [World.size_alloc, World.size_setCell, World.size_drew]; omega)))))).mono ?_
      rintro e w' ⟨rfl, y1, rfl⟩
      have hsy1 := y1.bel.size
      (try simp only [World.size_alloc, World.size_setCell, World.size_drew] at hsy1)
      go_wp2_with fail
      with_reducible refine (CS.out _ (hr'.out.bel (by (repeat (first | (with_reducible exact Below.refl _ _) | (with_reducible assumption) | (with_reducible refine Later.out _ ?_) | (with_reducible refine bel_alloc ?_ _) | (with_reducible refine bel_drew ?_) | (with_reducible refine bel_drewN ?_ _) | (with_reducible refine bel_set ?_ ?_ _) | (with_reducible refine After.out _ ?_ ?_) | (dsimp only; omega) | omega | (simp only [World.size_alloc, World.size_setCell, World.size_drew]; omega)))))).mono ?_
      rintro e w' ⟨rfl, y2, rfl⟩
      have hsy2 := y2.bel.size
      (try simp only [World.size_alloc, World.size_setCell, World.size_drew] at hsy2)
      go_wp2_with fail
      go_ret
      exact .mk rfl (by (repeat (first | (with_reducible exact Below.refl _ _) | (with_reducible assumption) | (with_reducible refine Later.out _ ?_) | (with_reducible refine bel_alloc ?_ _) | (with_reducible refine bel_drew ?_) | (with_reducible refine bel_drewN ?_ _) | (with_reducible refine bel_set ?_ ?_ _) | (with_reducible refine After.out _ ?_ ?_) | (dsimp only; omega) | omega | (simp only [World.size_alloc, World.size_setCell, World.size_drew]; omega))))
set_option maxRecDepth 8000 in
set_option maxHeartbeats 4000000 in
theorem romanise_spec (T : List Rul) (s : List Int) (aT a : Option Addr) (nT cT n c : Nat) (w : World) (hnT : T.length = nT) (hmT : nT ≤ 1048576) (hok : ∀ r ∈ T, RulOk r) (hn : s.length = n) (hm : n ≤ 1048576) (hnc : n ≤ c) (hcm : c ≤ maxLen) (hr : RulesR w aT T) (hr' : Row w a (intCells s)) :
    Calls Tryz.prog 25 #[.slice aT nT cT, .slice a n c] w (Ret w (.tuple #[.string (ruT T s), .int .i64 (ruC T s)])) := by
  subst hnT hn
  have CC := fun (w : World) (hr : RulesR w aT T) (hr' : Row w a (intCells s)) => sCode4_any T s aT a T.length cT s.length c w rfl hmT hok rfl hm hr hr'
  cases hb : tableB T && signsB s 12
  · have hc : ruC T s = 1 := by simp only [ruC, hb]; rfl
    have hl : ruL T s = [] := by simp [ruL, hc]
    rw [show ruT T s = ByteArray.empty by unfold ruT; rw [hl]; rfl, hc]
    rw [hb] at CC
    rw [show (if (false : Bool) = true then (0 : Int) else 1) = 1 from rfl] at CC
    replace CC := Lib.hid CC
    replace hr := Lib.hid hr
    replace hr' := Lib.hid hr'
    clear hok hb hc hl
    go_enter Tryz.func25, Tryz.ntmps25
    go_wp2_with fail
    with_reducible refine (CC.out _ (hr.out.bel (by (repeat (first | (with_reducible exact Below.refl _ _) | (with_reducible assumption) | (with_reducible refine Later.out _ ?_) | (with_reducible refine bel_alloc ?_ _) | (with_reducible refine bel_drew ?_) | (with_reducible refine bel_drewN ?_ _) | (with_reducible refine bel_set ?_ ?_ _) | (with_reducible refine After.out _ ?_ ?_) | (dsimp only; omega) | omega | (simp only [World.size_alloc, World.size_setCell, World.size_drew]; omega))))) (hr'.out.bel (by (repeat (first | (with_reducible exact Below.refl _ _) | (with_reducible assumption) | (with_reducible refine Later.out _ ?_) | (with_reducible refine bel_alloc ?_ _) | (with_reducible refine bel_drew ?_) | (with_reducible refine bel_drewN ?_ _) | (with_reducible refine bel_set ?_ ?_ _) | (with_reducible refine After.out _ ?_ ?_) | (dsimp only; omega) | omega | (simp only [World.size_alloc, World.size_setCell, World.size_drew]; omega)))))).mono ?_
    rintro e w' ⟨rfl, y1, rfl⟩
    have hsy1 := y1.bel.size
    (try simp only [World.size_alloc, World.size_setCell, World.size_drew] at hsy1)
    go_wp2_with fail
    refine bodyPost_ret (by simp [results, Tryz.results25, go_sem, ↓IntWalk.iteOmega, *]; try rfl) rfl ?_
    exact .mk rfl (by (repeat (first | (with_reducible exact Below.refl _ _) | (with_reducible assumption) | (with_reducible refine Later.out _ ?_) | (with_reducible refine bel_alloc ?_ _) | (with_reducible refine bel_drew ?_) | (with_reducible refine bel_drewN ?_ _) | (with_reducible refine bel_set ?_ ?_ _) | (with_reducible refine After.out _ ?_ ?_) | (dsimp only; omega) | omega | (simp only [World.size_alloc, World.size_setCell, World.size_drew]; omega))))
  · have hb2 := hb
    rw [Bool.and_eq_true] at hb2
    have hsl := signsB_len hb2.2
    have CR := fun (w : World) (hr : RulesR w aT T) (hr' : Row w a (intCells s)) => sRoman_any T s aT a T.length cT s.length c w rfl hb2.1 hok rfl (by omega) hnc hcm hr hr'
    rw [hb] at CC
    rw [show (if (true : Bool) = true then (0 : Int) else 1) = 0 from rfl] at CC
    cases hu : (used T s).isSome
    · have hc : ruC T s = 4 := by simp only [ruC, hb, hu]; rfl
      have hl : ruL T s = [] := by simp [ruL, hc]
      rw [show ruT T s = ByteArray.empty by unfold ruT; rw [hl]; rfl, hc]
      rw [hu] at CR
      obtain ⟨t, hte⟩ : ∃ t, romL T (usL (used T s)) = t := ⟨_, rfl⟩
      simp only [hte] at CR
      replace CC := Lib.hid CC
      replace CR := Lib.hid CR
      replace hr := Lib.hid hr
      replace hr' := Lib.hid hr'
      clear hok hb hb2 hc hl hu hte
      go_enter Tryz.func25, Tryz.ntmps25
      go_wp2_with fail
      with_reducible refine (CC.out _ (hr.out.bel (by (repeat (first | (with_reducible exact Below.refl _ _) | (with_reducible assumption) | (with_reducible refine Later.out _ ?_) | (with_reducible refine bel_alloc ?_ _) | (with_reducible refine bel_drew ?_) | (with_reducible refine bel_drewN ?_ _) | (with_reducible refine bel_set ?_ ?_ _) | (with_reducible refine After.out _ ?_ ?_) | (dsimp only; omega) | omega | (simp only [World.size_alloc, World.size_setCell, World.size_drew]; omega))))) (hr'.out.bel (by (repeat (first | (with_reducible exact Below.refl _ _) | (with_reducible assumption) | (with_reducible refine Later.out _ ?_) | (with_reducible refine bel_alloc ?_ _) | (with_reducible refine bel_drew ?_) | (with_reducible refine bel_drewN ?_ _) | (with_reducible refine bel_set ?_ ?_ _) | (with_reducible refine After.out _ ?_ ?_) | (dsimp only; omega) | omega | (simp only [World.size_alloc, World.size_setCell, World.size_drew]; omega)))))).mono ?_
      rintro e w' ⟨rfl, y1, rfl⟩
      have hsy1 := y1.bel.size
      (try simp only [World.size_alloc, World.size_setCell, World.size_drew] at hsy1)
      go_wp2_with fail
      with_reducible refine (CR.out _ (hr.out.bel (by (repeat (first | (with_reducible exact Below.refl _ _) | (with_reducible assumption) | (with_reducible refine Later.out _ ?_) | (with_reducible refine bel_alloc ?_ _) | (with_reducible refine bel_drew ?_) | (with_reducible refine bel_drewN ?_ _) | (with_reducible refine bel_set ?_ ?_ _) | (with_reducible refine After.out _ ?_ ?_) | (dsimp only; omega) | omega | (simp only [World.size_alloc, World.size_setCell, World.size_drew]; omega))))) (hr'.out.bel (by (repeat (first | (with_reducible exact Below.refl _ _) | (with_reducible assumption) | (with_reducible refine Later.out _ ?_) | (with_reducible refine bel_alloc ?_ _) | (with_reducible refine bel_drew ?_) | (with_reducible refine bel_drewN ?_ _) | (with_reducible refine bel_set ?_ ?_ _) | (with_reducible refine After.out _ ?_ ?_) | (dsimp only; omega) | omega | (simp only [World.size_alloc, World.size_setCell, World.size_drew]; omega)))))).mono ?_
      rintro e w' ⟨rfl, y2, rfl⟩
      have hsy2 := y2.bel.size
      (try simp only [World.size_alloc, World.size_setCell, World.size_drew] at hsy2)
      go_wp2_with fail
      refine bodyPost_ret (by simp [results, Tryz.results25, go_sem, ↓IntWalk.iteOmega, *]; try rfl) rfl ?_
      exact .mk rfl (by (repeat (first | (with_reducible exact Below.refl _ _) | (with_reducible assumption) | (with_reducible refine Later.out _ ?_) | (with_reducible refine bel_alloc ?_ _) | (with_reducible refine bel_drew ?_) | (with_reducible refine bel_drewN ?_ _) | (with_reducible refine bel_set ?_ ?_ _) | (with_reducible refine After.out _ ?_ ?_) | (dsimp only; omega) | omega | (simp only [World.size_alloc, World.size_setCell, World.size_drew]; omega))))
    · have hc : ruC T s = 0 := by simp only [ruC, hb, hu]; rfl
      have hl : ruL T s = usL (used T s) := by simp [ruL, hc]
      rw [show ruT T s = romL T (usL (used T s)) by unfold ruT; rw [hl], hc]
      rw [hu] at CR
      obtain ⟨t, hte⟩ : ∃ t, romL T (usL (used T s)) = t := ⟨_, rfl⟩
      simp only [hte] at CR ⊢
      replace CC := Lib.hid CC
      replace CR := Lib.hid CR
      replace hr := Lib.hid hr
      replace hr' := Lib.hid hr'
      clear hok hb hb2 hc hl hu hte
      go_enter Tryz.func25, Tryz.ntmps25
      go_wp2_with fail
      with_reducible refine (CC.out _ (hr.out.bel (by (repeat (first | (with_reducible exact Below.refl _ _) | (with_reducible assumption) | (with_reducible refine Later.out _ ?_) | (with_reducible refine bel_alloc ?_ _) | (with_reducible refine bel_drew ?_) | (with_reducible refine bel_drewN ?_ _) | (with_reducible refine bel_set ?_ ?_ _) | (with_reducible refine After.out _ ?_ ?_) | (dsimp only; omega) | omega | (simp only [World.size_alloc, World.size_setCell, World.size_drew]; omega))))) (hr'.out.bel (by (repeat (first | (with_reducible exact Below.refl _ _) | (with_reducible assumption) | (with_reducible refine Later.out _ ?_) | (with_reducible refine bel_alloc ?_ _) | (with_reducible refine bel_drew ?_) | (with_reducible refine bel_drewN ?_ _) | (with_reducible refine bel_set ?_ ?_ _) | (with_reducible refine After.out _ ?_ ?_) | (dsimp only; omega) | omega | (simp only [World.size_alloc, World.size_setCell, World.size_drew]; omega)))))).mono ?_
      rintro e w' ⟨rfl, y1, rfl⟩
      have hsy1 := y1.bel.size
      (try simp only [World.size_alloc, World.size_setCell, World.size_drew] at hsy1)
      go_wp2_with fail
      with_reducible refine (CR.out _ (hr.out.bel (by (repeat (first | (with_reducible exact Below.refl _ _) | (with_reducible assumption) | (with_reducible refine Later.out _ ?_) | (with_reducible refine bel_alloc ?_ _) | (with_reducible refine bel_drew ?_) | (with_reducible refine bel_drewN ?_ _) | (with_reducible refine bel_set ?_ ?_ _) | (with_reducible refine After.out _ ?_ ?_) | (dsimp only; omega) | omega | (simp only [World.size_alloc, World.size_setCell, World.size_drew]; omega))))) (hr'.out.bel (by (repeat (first | (with_reducible exact Below.refl _ _) | (with_reducible assumption) | (with_reducible refine Later.out _ ?_) | (with_reducible refine bel_alloc ?_ _) | (with_reducible refine bel_drew ?_) | (with_reducible refine bel_drewN ?_ _) | (with_reducible refine bel_set ?_ ?_ _) | (with_reducible refine After.out _ ?_ ?_) | (dsimp only; omega) | omega | (simp only [World.size_alloc, World.size_setCell, World.size_drew]; omega)))))).mono ?_
      rintro e w' ⟨rfl, y2, rfl⟩
      have hsy2 := y2.bel.size
      (try simp only [World.size_alloc, World.size_setCell, World.size_drew] at hsy2)
      go_wp2_with fail
      refine bodyPost_ret (by simp [results, Tryz.results25, go_sem, ↓IntWalk.iteOmega, *]; try rfl) rfl ?_
      exact .mk rfl (by (repeat (first | (with_reducible exact Below.refl _ _) | (with_reducible assumption) | (with_reducible refine Later.out _ ?_) | (with_reducible refine bel_alloc ?_ _) | (with_reducible refine bel_drew ?_) | (with_reducible refine bel_drewN ?_ _) | (with_reducible refine bel_set ?_ ?_ _) | (with_reducible refine After.out _ ?_ ?_) | (dsimp only; omega) | omega | (simp only [World.size_alloc, World.size_setCell, World.size_drew]; omega))))
end Go.Proofs.YtemfhcmeeldngaaGreatDoor

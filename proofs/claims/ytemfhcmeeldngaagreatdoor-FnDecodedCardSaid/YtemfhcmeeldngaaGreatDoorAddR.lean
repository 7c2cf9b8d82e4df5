import Derived.Test.YtemfhcmeeldngaaGreatDoorGTab
import Derived.Test.YtemfhcmeeldngaaGreatDoorPackPe
import Derived.Test.YtemfhcmeeldngaaGreatDoorPackPa
/- Adding a rule to a table, the reference's way: what is handed back is a table of one's own. -/
set_option linter.unusedSimpArgs false
set_option linter.unusedVariables false
namespace Go.Proofs.YtemfhcmeeldngaaGreatDoor
open Go.RowKit
set_option maxRecDepth 8000 in
set_option maxHeartbeats 8000000 in
theorem ownT_any (T : List Rul) (a : Option Addr) (n c : Nat) (w : World) (hn : T.length = n) (hm : n ≤ 64) (hs : ∀ r ∈ T, SmR r) (hr : RulesR w a T) :
    Calls Tryz.prog 103 #[.slice a n c] w (RetGT w n) := by
  subst hn
  obtain ⟨ii, j1, j2, j3, j4⟩ := info_rule'
  have Jii := Lib.hid (And.intro j1 (And.intro j2 (And.intro j3 j4)))
  have HO := Lib.hid (World.ownsRow_lit (base := w.heap.size) (e := 57) (size := 2) w #[] 0 (Nat.le_refl _) (by unfold maxLen; omega) rfl)
  replace hr := Lib.hid hr
  replace hs := Lib.hid hs
  clear j1 j2 j3 j4
  go_enter Tryz.func103, Tryz.ntmps103
  go_wp2_with fail
  go_loopw [3, 4] (fun ov iv wr => ∃ (i : Nat) (O : List Rul) (al : Option Addr) (cl : Nat), i ≤ T.length ∧ iv = .int .i64 i ∧ ov = .slice al i cl ∧ GTab wr w.heap.size O al i cl ∧ ∃ z : Later w, wr = z.w) (fun _ iv _ => T.length - (intOf iv).toNat)
  case atStart => exact ⟨0, [], _, _, Nat.zero_le _, rfl, rfl, GTab.nil HO.out, LaterC.mk (by (repeat (first | (with_reducible exact Below.refl _ _) | (with_reducible assumption) | (with_reducible refine Later.out _ ?_) | (with_reducible refine bel_alloc ?_ _) | (with_reducible refine bel_drew ?_) | (with_reducible refine bel_drewN ?_ _) | (with_reducible refine bel_set ?_ ?_ _) | (with_reducible refine After.out _ ?_ ?_) | (dsimp only; omega) | omega | (simp only [World.size_alloc, World.size_setCell, World.size_drew]; omega))))⟩
  case round =>
    obtain ⟨i, O, al, cl, hi, rfl, rfl, hG, z, rfl⟩ := hrel
    have hzz := z.bel.size
    by_cases hlt : i < T.length
    · have hi1 : (i : Int) < (T.length : Int) := by omega
      obtain ⟨b, o, ai, ci, rfl, hb, q0, q1, q2, q3, q4⟩ := hr.out.at_ hlt
      have hsm := hs.out _ (List.getElem_mem hlt)
      have hs1 := hsm.s
      have CO := Lib.hid (fun (w : World) (hr : Row w ai (intCells T[i].sg)) => ownI_any T[i].sg ai T[i].sg.length ci w rfl (by omega) hr)
      obtain ⟨hGl, hGo, vs, hv, hrows⟩ := hG
      obtain ⟨gg, gg', hg0, hgg, hg1, hog, hgl, hgo, -⟩ := own_tight hv
      have hg2 : gg' ≤ z.w.heap.size := Nat.le_trans hg1 (Nat.max_le.2 ⟨hzz, Nat.le_refl _⟩)
      have hvl : vs.length = i * 2 := hv.1
      replace q2 := Lib.hid q2
      replace hog := Lib.hid hog
      replace hgo := Lib.hid hgo
      replace hrows := Lib.hid hrows
      replace hGo := Lib.hid hGo
      replace hGl := Lib.hid hGl
      have hi64 : i ≤ 64 := by omega
      clear q3 q4 hv
      go_wp2_with fail
      refine wp_region_plan2 [(0, true), (1, true), (2, true), (3, true), (4, true), (5, true), (7, true), (8, true), (9, true), (10, true), (11, true), (6, false), (12, true), (13, false), (14, false), (15, true)] (C := LaterC (w)) (by kernel_rfl) (by kernel_rfl) (by kernel_rfl) rfl (fun _ _ d _ _ h => by cases d <;> exact h) (LaterC.mk ((by (repeat (first | (with_reducible exact Below.refl _ _) | (with_reducible assumption) | (with_reducible refine Later.out _ ?_) | (with_reducible refine bel_alloc ?_ _) | (with_reducible refine bel_drew ?_) | (with_reducible refine bel_drewN ?_ _) | (with_reducible refine bel_set ?_ ?_ _) | (with_reducible refine After.out _ ?_ ?_) | (dsimp only; omega) | omega | (simp only [World.size_alloc, World.size_setCell, World.size_drew]; omega)))))) ?_
      first | (refine plan_quiet nth0 rfl ?_; intro KP hKP; go_big_quiet_op; go_big_quiet_on) | (refine plan_skip_q nth0 rfl rfl ?_; simp only [Act.put, List.setIfInBounds_toArray, List.set_cons_zero, List.set_cons_succ])
      first | (refine plan_quiet nth1 rfl ?_; intro KP hKP; go_big_quiet_op; go_big_quiet_on) | (refine plan_skip_q nth1 rfl rfl ?_; simp only [Act.put, List.setIfInBounds_toArray, List.set_cons_zero, List.set_cons_succ])
      first | (refine plan_quiet nth2 rfl ?_; intro KP hKP; go_big_quiet_op; go_big_quiet_on) | (refine plan_skip_q nth2 rfl rfl ?_; simp only [Act.put, List.setIfInBounds_toArray, List.set_cons_zero, List.set_cons_succ])
      first | (refine plan_quiet nth3 rfl ?_; intro KP hKP; go_big_quiet_op; go_big_quiet_on) | (refine plan_skip_q nth3 rfl rfl ?_; simp only [Act.put, List.setIfInBounds_toArray, List.set_cons_zero, List.set_cons_succ])
      first | (refine plan_quiet nth4 rfl ?_; intro KP hKP; go_big_quiet_op; go_big_quiet_on) | (refine plan_skip_q nth4 rfl rfl ?_; simp only [Act.put, List.setIfInBounds_toArray, List.set_cons_zero, List.set_cons_succ])
      first | (refine plan_quiet nth5 rfl ?_; intro KP hKP; go_big_quiet_op; go_big_quiet_on) | (refine plan_skip_q nth5 rfl rfl ?_; simp only [Act.put, List.setIfInBounds_toArray, List.set_cons_zero, List.set_cons_succ])
      first | (refine plan_quiet nth7 rfl ?_; intro KP hKP; go_big_quiet_op; go_big_quiet_on) | (refine plan_skip_q nth7 rfl rfl ?_; simp only [Act.put, List.setIfInBounds_toArray, List.set_cons_zero, List.set_cons_succ])
      first | (refine plan_quiet nth8 rfl ?_; intro KP hKP; go_big_quiet_op; go_big_quiet_on) | (refine plan_skip_q nth8 rfl rfl ?_; simp only [Act.put, List.setIfInBounds_toArray, List.set_cons_zero, List.set_cons_succ])
      first | (refine plan_quiet nth9 rfl ?_; intro KP hKP; go_big_quiet_op; go_big_quiet_on) | (refine plan_skip_q nth9 rfl rfl ?_; simp only [Act.put, List.setIfInBounds_toArray, List.set_cons_zero, List.set_cons_succ])
      first | (refine plan_quiet nth10 rfl ?_; intro KP hKP; go_big_quiet_op; go_big_quiet_on) | (refine plan_skip_q nth10 rfl rfl ?_; simp only [Act.put, List.setIfInBounds_toArray, List.set_cons_zero, List.set_cons_succ])
      first | (refine plan_quiet nth11 rfl ?_; intro KP hKP; go_big_quiet_op; go_big_quiet_on) | (refine plan_skip_q nth11 rfl rfl ?_; simp only [Act.put, List.setIfInBounds_toArray, List.set_cons_zero, List.set_cons_succ])
      first | (refine plan_loud nth6 rfl ?_; intro KP hKP; go_wp2_with (first | (go_at_call 102; (with_reducible refine (CO.out _ (q2.out.bel (by (repeat (first | (with_reducible exact Below.refl _ _) | (with_reducible assumption) | (with_reducible refine Later.out _ ?_) | (with_reducible refine bel_alloc ?_ _) | (with_reducible refine bel_drew ?_) | (with_reducible refine bel_drewN ?_ _) | (with_reducible refine bel_set ?_ ?_ _) | (with_reducible refine After.out _ ?_ ?_) | (dsimp only; omega) | omega | (simp only [World.size_alloc, World.size_setCell, World.size_drew]; omega)))))).mono ?_); rintro e w' ⟨a7, c7, rfl, hown, y7, rfl⟩; have hsz := y7.bel.size; (try simp only [World.size_alloc, World.size_setCell, World.size_drew] at hsz); (try have hz0 : w.heap.size < y7.w.heap.size := (by omega)); (try have hz1 : w.heap.size + 1 < y7.w.heap.size := (by omega)); (try have hz2 : w.heap.size + 1 + 1 < y7.w.heap.size := (by omega)); have HO7 := Lib.hid (Owns.of hown); clear hown)); refine hKP _ _ (LaterC.mk (by (repeat (first | (with_reducible exact Below.refl _ _) | (with_reducible assumption) | (with_reducible refine Later.out _ ?_) | (with_reducible refine bel_alloc ?_ _) | (with_reducible refine bel_drew ?_) | (with_reducible refine bel_drewN ?_ _) | (with_reducible refine bel_set ?_ ?_ _) | (with_reducible refine After.out _ ?_ ?_) | (dsimp only; omega) | omega | (simp only [World.size_alloc, World.size_setCell, World.size_drew]; omega))))) ?_; clear hKP KP) | (refine plan_skip nth6 rfl rfl (LaterC.mk (by (repeat (first | (with_reducible exact Below.refl _ _) | (with_reducible assumption) | (with_reducible refine Later.out _ ?_) | (with_reducible refine bel_alloc ?_ _) | (with_reducible refine bel_drew ?_) | (with_reducible refine bel_drewN ?_ _) | (with_reducible refine bel_set ?_ ?_ _) | (with_reducible refine After.out _ ?_ ?_) | (dsimp only; omega) | omega | (simp only [World.size_alloc, World.size_setCell, World.size_drew]; omega))))) ?_; simp only [Act.put, List.setIfInBounds_toArray, List.set_cons_zero, List.set_cons_succ])
      first | (refine plan_quiet nth12 rfl ?_; intro KP hKP; go_big_quiet_op; go_big_quiet_on) | (refine plan_skip_q nth12 rfl rfl ?_; simp only [Act.put, List.setIfInBounds_toArray, List.set_cons_zero, List.set_cons_succ])
      first | (refine plan_loud nth13 rfl ?_; intro KP hKP; go_wp2_with (first | (go_at_call 102; (with_reducible refine (CO.out _ (q2.out.bel (by (repeat (first | (with_reducible exact Below.refl _ _) | (with_reducible assumption) | (with_reducible refine Later.out _ ?_) | (with_reducible refine bel_alloc ?_ _) | (with_reducible refine bel_drew ?_) | (with_reducible refine bel_drewN ?_ _) | (with_reducible refine bel_set ?_ ?_ _) | (with_reducible refine After.out _ ?_ ?_) | (dsimp only; omega) | omega | (simp only [World.size_alloc, World.size_setCell, World.size_drew]; omega)))))).mono ?_); rintro e w' ⟨a7, c7, rfl, hown, y7, rfl⟩; have hsz := y7.bel.size; (try simp only [World.size_alloc, World.size_setCell, World.size_drew] at hsz); (try have hz0 : w.heap.size < y7.w.heap.size := (by omega)); (try have hz1 : w.heap.size + 1 < y7.w.heap.size := (by omega)); (try have hz2 : w.heap.size + 1 + 1 < y7.w.heap.size := (by omega)); have HO7 := Lib.hid (Owns.of hown); clear hown)); refine hKP _ _ (LaterC.mk (by (repeat (first | (with_reducible exact Below.refl _ _) | (with_reducible assumption) | (with_reducible refine Later.out _ ?_) | (with_reducible refine bel_alloc ?_ _) | (with_reducible refine bel_drew ?_) | (with_reducible refine bel_drewN ?_ _) | (with_reducible refine bel_set ?_ ?_ _) | (with_reducible refine After.out _ ?_ ?_) | (dsimp only; omega) | omega | (simp only [World.size_alloc, World.size_setCell, World.size_drew]; omega))))) ?_; clear hKP KP) | (refine plan_skip nth13 rfl rfl (LaterC.mk (by (repeat (first | (with_reducible exact Below.refl _ _) | (with_reducible assumption) | (with_reducible refine Later.out _ ?_) | (with_reducible refine bel_alloc ?_ _) | (with_reducible refine bel_drew ?_) | (with_reducible refine bel_drewN ?_ _) | (with_reducible refine bel_set ?_ ?_ _) | (with_reducible refine After.out _ ?_ ?_) | (dsimp only; omega) | omega | (simp only [World.size_alloc, World.size_setCell, World.size_drew]; omega))))) ?_; simp only [Act.put, List.setIfInBounds_toArray, List.set_cons_zero, List.set_cons_succ])
      refine plan_loud nth14 rfl ?_
      intro KP hKP
      ((refine oper_append_apart _ _ _ _ rfl 57 ii _ 2 40 Tryz.underlying24 Jii.out.1 Jii.out.2.1 Jii.out.2.2.1 Jii.out.2.2.2 rfl (by decide) (gg) (gg') ?qb1 _ _ _ (vs) rfl ?qb2 ?qb8 _ _ _ (ruleV a7 c7 T[i]) rfl ?qb3 ?qb4 ?qb5 ?qb6 ?qb7 ?_); (case qb1 => (first | (dsimp only; omega) | omega | (simp only [World.size_alloc, World.size_setCell, World.size_drew]; omega))); (case qb2 => exact own_bel hog.out (by (repeat (first | (with_reducible exact Below.refl _ _) | (with_reducible assumption) | (with_reducible refine Later.out _ ?_) | (with_reducible refine bel_alloc ?_ _) | (with_reducible refine bel_drew ?_) | (with_reducible refine bel_drewN ?_ _) | (with_reducible refine bel_set ?_ ?_ _) | (with_reducible refine After.out _ ?_ ?_) | (dsimp only; omega) | omega | (simp only [World.size_alloc, World.size_setCell, World.size_drew]; omega))))); (case qb8 => exact hgl); (case qb3 => (first | rfl | (simp [boolCells]; done) | (simp [intCells]; done) | (simp; done) | (first | omega | (simp only [List.length_append, List.length_cons, List.length_nil]; omega)))); (case qb4 => exact Row.made _ _ _); (case qb5 => exact one_ruleV _ _ _); (case qb6 => (unfold maxLen; (first | omega | (simp only [List.length_append, List.length_cons, List.length_nil]; omega)))); (case qb7 => (first | omega | (simp only [List.length_append, List.length_cons, List.length_nil]; omega))); intro a9 c9 x9 hown9 hat9; replace hat9 := Lib.hid hat9; replace hown9 := Lib.hid hown9; have hs9 := x9.btw.size; (try simp only [World.size_alloc, World.size_setCell, World.size_drew] at hs9))
      have hbw9 : Below w.heap.size w x9.w := btw_below' (by (repeat (first | (with_reducible exact Below.refl _ _) | (with_reducible assumption) | (with_reducible refine Later.out _ ?_) | (with_reducible refine bel_alloc ?_ _) | (with_reducible refine bel_drew ?_) | (with_reducible refine bel_drewN ?_ _) | (with_reducible refine bel_set ?_ ?_ _) | (with_reducible refine After.out _ ?_ ?_) | (dsimp only; omega) | omega | (simp only [World.size_alloc, World.size_setCell, World.size_drew]; omega)))) x9.btw hg0
      refine hKP _ _ (LaterC.mk hbw9) ?_
      clear hKP KP
      simp only [Act.put, List.setIfInBounds_toArray, List.set_cons_zero, List.set_cons_succ]
      refine plan_quiet nth15 rfl ?_
      intro KP hKP
      go_big_quiet_op
      go_big_quiet_on
      refine plan_nil ?_
      go_wp2_with fail
      go_roundw
      case rel =>
        have hc7 := ownsRow_cap HO7.out.own
        refine ⟨i + 1, O ++ [T[i]], a9, c9, by omega, by go_num, rfl, ?_, LaterC.mk hbw9⟩
        refine GTab.snoc (c := cl) (w := y7.w.alloc (.cells #[.slice a7 T[i].sg.length c7, .string T[i].rom] 57)) hGl.out hGo.out ?_ hvl hgo.out x9.btw hown9.out hg0 hat9.out hsm ?_ hc7.1 hc7.2 ?_
        · exact hrows.out.bel (by (repeat (first | (with_reducible exact Below.refl _ _) | (with_reducible assumption) | (with_reducible refine Later.out _ ?_) | (with_reducible refine bel_alloc ?_ _) | (with_reducible refine bel_drew ?_) | (with_reducible refine bel_drewN ?_ _) | (with_reducible refine bel_set ?_ ?_ _) | (with_reducible refine After.out _ ?_ ?_) | (dsimp only; omega) | omega | (simp only [World.size_alloc, World.size_setCell, World.size_drew]; omega))))
        · exact HO7.out.row.bel (by (repeat (first | (with_reducible exact Below.refl _ _) | (with_reducible assumption) | (with_reducible refine Later.out _ ?_) | (with_reducible refine bel_alloc ?_ _) | (with_reducible refine bel_drew ?_) | (with_reducible refine bel_drewN ?_ _) | (with_reducible refine bel_set ?_ ?_ _) | (with_reducible refine After.out _ ?_ ?_) | (dsimp only; omega) | omega | (simp only [World.size_alloc, World.size_setCell, World.size_drew]; omega))))
        · intro p hp
          have h1 := HO7.out.ge p hp
          have h2 := HO7.out.lt p hp
          simp only [World.size_drew] at h1
          refine ⟨by omega, by simp only [World.size_alloc]; omega, fun q hq => ?_⟩
          have h3 := (hog.out.lt q.block (by rw [hq]; rfl)).2
          omega
      case measure => first | (simp [intOf]; done) | (simp [intOf]; omega) | omega
    · obtain rfl : i = T.length := by omega
      go_wp2_with fail
      go_ret
      exact ⟨O, al, T.length, cl, rfl, rfl, hG, ⟨z.w, z.bel⟩, rfl⟩
/-- A table more, or none. -/
def RetAdd (w : World) (m : Nat) (e : Ending) (w' : World) : Prop :=
  ∃ (T : List Rul) (a : Option Addr) (n c : Nat) (code : Int), e = .returned (.tuple #[.slice a n c, .int .i64 code]) ∧ (code = 0 → m ≤ n ∧ n ≤ 30 ∧ GTab w' w.heap.size T a n c) ∧ ∃ y : Later w, w' = y.w
theorem rules_of_vals {w : World} {a : Option Addr} {T : List Rul} {vs : List Value} (h : Row w a vs) (h2 : ∀ i (hi : i < T.length), ∃ ai ci, vs[i * 2]? = some (.slice ai T[i].sg.length ci) ∧ vs[i * 2 + 1]? = some (.string T[i].rom) ∧ Row w ai (intCells T[i].sg) ∧ T[i].sg.length ≤ ci ∧ ci ≤ maxLen) : RulesR w a T := fun i hi => by
  obtain ⟨ai, ci, e1, e2, e3, e4, e5⟩ := h2 i hi
  obtain ⟨b, o, rfl, q0⟩ := h (i * 2) _ e1
  obtain ⟨b', o', e, q1⟩ := h (i * 2 + 1) _ e2
  cases e
  exact ⟨b, o, ai, ci, rfl, World.block_lt_of_cell? w _ q0, q0, by rw [Nat.add_assoc]; exact q1, e3, e4, e5⟩
/-- The values of a table with another text at one place. -/
theorem vals_set {T : List Rul} {vs : List Value} {k : Nat} {r : Rul} {w : World} {ak : Option Addr} {ck : Nat} (hk : k < T.length) (hl : vs.length = T.length * 2) (h1 : Row w ak (intCells T[k].sg)) (h3 : T[k].sg.length ≤ ck) (h4 : ck ≤ maxLen)
    (h2 : ∀ i (hi : i < T.length), ∃ ai ci, vs[i * 2]? = some (.slice ai T[i].sg.length ci) ∧ vs[i * 2 + 1]? = some (.string T[i].rom) ∧ Row w ai (intCells T[i].sg) ∧ T[i].sg.length ≤ ci ∧ ci ≤ maxLen) :
    ∀ i (hi : i < (T.set k ⟨T[k].sg, r.rom⟩).length), ∃ ai ci, ((vs.set (k * 2) (.slice ak T[k].sg.length ck)).set (k * 2 + 1) (.string r.rom))[i * 2]? = some (.slice ai (T.set k ⟨T[k].sg, r.rom⟩)[i].sg.length ci) ∧ ((vs.set (k * 2) (.slice ak T[k].sg.length ck)).set (k * 2 + 1) (.string r.rom))[i * 2 + 1]? = some (.string (T.set k ⟨T[k].sg, r.rom⟩)[i].rom) ∧ Row w ai (intCells (T.set k ⟨T[k].sg, r.rom⟩)[i].sg) ∧ (T.set k ⟨T[k].sg, r.rom⟩)[i].sg.length ≤ ci ∧ ci ≤ maxLen := fun i hi => by
  have hi' : i < T.length := by simpa using hi
  by_cases e : i = k
  · subst e
    have e2 : (T.set i ⟨T[i].sg, r.rom⟩)[i] = ⟨T[i].sg, r.rom⟩ := by simp
    rw [e2]
    refine ⟨ak, ck, ?_, ?_, h1, h3, h4⟩
    · rw [List.getElem?_set_ne (by omega), List.getElem?_set_self (by omega)]
    · rw [List.getElem?_set_self (by simp; omega)]
  · have e2 : (T.set k ⟨T[k].sg, r.rom⟩)[i] = T[i] := List.getElem_set_ne (fun h => e h.symm) _
    rw [e2]
    obtain ⟨ai, ci, e3, e4, e5⟩ := h2 i hi'
    exact ⟨ai, ci, by rw [List.getElem?_set_ne (by omega), List.getElem?_set_ne (by omega)]; exact e3, by rw [List.getElem?_set_ne (by omega), List.getElem?_set_ne (by omega)]; exact e4, e5⟩
theorem btw_wide {g g' lo hi : Nat} {w w' : World} (h : Between g g' w w') (h1 : lo ≤ g) (h2 : g' ≤ hi) : Between lo hi w w' := ⟨h.os, h.tape, h.output, h.size, fun k hk hor => h.block k hk (by omega)⟩
theorem RetAdd.no {w w' : World} {m : Nat} {e : Ending} (code : Int) (hc : code ≠ 0) (he : e = .returned (.tuple #[.slice none 0 0, .int .i64 code])) (hw : Below w.heap.size w w') : RetAdd w m e w' := ⟨[], none, 0, 0, code, he, fun h => absurd h hc, ⟨w', hw⟩, rfl⟩
set_option maxRecDepth 8000 in
set_option maxHeartbeats 8000000 in
theorem addRule_any (T : List Rul) (r : Rul) (a ar : Option Addr) (n c cr : Nat) (w : World) (hn : T.length = n) (hm : n ≤ 64) (hs : ∀ r ∈ T, SmR r) (hsr : SmR r) (hr : RulesR w a T) (hrr : Row w ar (intCells r.sg)) (hc1 : r.sg.length ≤ cr) (hc2 : cr ≤ maxLen) :
    Calls Tryz.prog 90 #[.slice a n c, .agg #[.slice ar r.sg.length cr, .string r.rom]] w (RetAdd w n) := by
  subst hn
  obtain ⟨ii, j1, j2, j3, j4⟩ := info_rule'
  have Jii := Lib.hid (And.intro j1 (And.intro j2 (And.intro j3 j4)))
  have CT := fun (w : World) (hr : RulesR w a T) => sIsTable_any T a T.length c w rfl (by omega) (fun r h => (hs r h).ok) hr
  have CR := fun (w : World) (hr : Row w ar (intCells r.sg)) => sIsRule_any r ar cr w hsr.ok hr
  clear j1 j2 j3 j4
  cases hT : tableB T
  · rw [hT] at CT
    replace CT := Lib.hid CT
    replace hr := Lib.hid hr
    clear CR hs hT
    go_enter Tryz.func90, Tryz.ntmps90
    go_wp2_with fail
    with_reducible refine (CT.out _ (hr.out.bel (by (repeat (first | (with_reducible exact Below.refl _ _) | (with_reducible assumption) | (with_reducible refine Later.out _ ?_) | (with_reducible refine bel_alloc ?_ _) | (with_reducible refine bel_drew ?_) | (with_reducible refine bel_drewN ?_ _) | (with_reducible refine bel_set ?_ ?_ _) | (with_reducible refine After.out _ ?_ ?_) | (dsimp only; omega) | omega | (simp only [World.size_alloc, World.size_setCell, World.size_drew]; omega)))))).mono ?_
    rintro e w' ⟨rfl, y1, rfl⟩
    have hsy1 := y1.bel.size
    (try simp only [World.size_alloc, World.size_setCell, World.size_drew] at hsy1)
    go_wp2_with fail
    refine bodyPost_ret (by simp [results, Tryz.results90, go_sem, ↓IntWalk.iteOmega, *]; try rfl) rfl ?_
    exact .no 1 (by decide) rfl (by (repeat (first | (with_reducible exact Below.refl _ _) | (with_reducible assumption) | (with_reducible refine Later.out _ ?_) | (with_reducible refine bel_alloc ?_ _) | (with_reducible refine bel_drew ?_) | (with_reducible refine bel_drewN ?_ _) | (with_reducible refine bel_set ?_ ?_ _) | (with_reducible refine After.out _ ?_ ?_) | (dsimp only; omega) | omega | (simp only [World.size_alloc, World.size_setCell, World.size_drew]; omega))))
  · rw [hT] at CT
    cases hB : ruleB r
    · rw [hB] at CR
      replace CT := Lib.hid CT
      replace CR := Lib.hid CR
      replace hr := Lib.hid hr
      replace hrr := Lib.hid hrr
      clear hs hT hB
      go_enter Tryz.func90, Tryz.ntmps90
      go_wp2_with fail
      with_reducible refine (CT.out _ (hr.out.bel (by (repeat (first | (with_reducible exact Below.refl _ _) | (with_reducible assumption) | (with_reducible refine Later.out _ ?_) | (with_reducible refine bel_alloc ?_ _) | (with_reducible refine bel_drew ?_) | (with_reducible refine bel_drewN ?_ _) | (with_reducible refine bel_set ?_ ?_ _) | (with_reducible refine After.out _ ?_ ?_) | (dsimp only; omega) | omega | (simp only [World.size_alloc, World.size_setCell, World.size_drew]; omega)))))).mono ?_
      rintro e w' ⟨rfl, y1, rfl⟩
      have hsy1 := y1.bel.size
      (try simp only [World.size_alloc, World.size_setCell, World.size_drew] at hsy1)
      go_wp2_with fail
      with_reducible refine (CR.out _ (hrr.out.bel (by (repeat (first | (with_reducible exact Below.refl _ _) | (with_reducible assumption) | (with_reducible refine Later.out _ ?_) | (with_reducible refine bel_alloc ?_ _) | (with_reducible refine bel_drew ?_) | (with_reducible refine bel_drewN ?_ _) | (with_reducible refine bel_set ?_ ?_ _) | (with_reducible refine After.out _ ?_ ?_) | (dsimp only; omega) | omega | (simp only [World.size_alloc, World.size_setCell, World.size_drew]; omega)))))).mono ?_
      rintro e w' ⟨rfl, y2, rfl⟩
      have hsy2 := y2.bel.size
      (try simp only [World.size_alloc, World.size_setCell, World.size_drew] at hsy2)
      go_wp2_with fail
      refine bodyPost_ret (by simp [results, Tryz.results90, go_sem, ↓IntWalk.iteOmega, *]; try rfl) rfl ?_
      exact .no 1 (by decide) rfl (by (repeat (first | (with_reducible exact Below.refl _ _) | (with_reducible assumption) | (with_reducible refine Later.out _ ?_) | (with_reducible refine bel_alloc ?_ _) | (with_reducible refine bel_drew ?_) | (with_reducible refine bel_drewN ?_ _) | (with_reducible refine bel_set ?_ ?_ _) | (with_reducible refine After.out _ ?_ ?_) | (dsimp only; omega) | omega | (simp only [World.size_alloc, World.size_setCell, World.size_drew]; omega))))
    · rw [hB] at CR
      have hlen := tableB_len hT
      have hs1 := hsr.s
      have CF := fun (w : World) (hr : RulesR w a T) (hrr : Row w ar (intCells r.sg)) => sFind_any T r.sg a ar T.length c r.sg.length cr w rfl (by omega) (fun r h => (hs r h).ok) rfl (by omega) hr hrr
      obtain ⟨vs, hvl, hvr, hv1, hvs⟩ := hr.vals
      have HO := Lib.hid (fun (w1 : World) => World.ownsRow_lit (base := w1.heap.size) (e := 57) (size := 2) w1 #[] 0 (Nat.le_refl _) (by unfold maxLen; omega) rfl)
      have hFc := findR_cases T r.sg
      obtain ⟨F, hF⟩ : ∃ F, findR T r.sg = F := ⟨_, rfl⟩
      simp only [hF] at CF hFc
      have CO := Lib.hid (fun (w : World) (hr : Row w ar (intCells r.sg)) => ownI_any r.sg ar r.sg.length cr w rfl (by omega) hr)
      have hTg := Lib.hid (fun (T' : List Rul) (hl : T'.length ≤ 64) (hs' : ∀ x ∈ T', SmR x) (a' : Option Addr) (c' : Nat) (w : World) (hr : RulesR w a' T') => And.intro (sIsTable_any T' a' T'.length c' w rfl (by omega) (fun x h => (hs' x h).ok) hr) (ownT_any T' a' T'.length c' w rfl hl hs' hr))
      clear hF
      replace CT := Lib.hid CT
      replace CR := Lib.hid CR
      replace CF := Lib.hid CF
      replace hr := Lib.hid hr
      replace hrr := Lib.hid hrr
      replace hvr := Lib.hid hvr
      replace hv1 := Lib.hid hv1
      replace hvs := Lib.hid hvs
      go_enter Tryz.func90, Tryz.ntmps90
      go_wp2_with fail
      with_reducible refine (CT.out _ (hr.out.bel (by (repeat (first | (with_reducible exact Below.refl _ _) | (with_reducible assumption) | (with_reducible refine Later.out _ ?_) | (with_reducible refine bel_alloc ?_ _) | (with_reducible refine bel_drew ?_) | (with_reducible refine bel_drewN ?_ _) | (with_reducible refine bel_set ?_ ?_ _) | (with_reducible refine After.out _ ?_ ?_) | (dsimp only; omega) | omega | (simp only [World.size_alloc, World.size_setCell, World.size_drew]; omega)))))).mono ?_
      rintro e w' ⟨rfl, y1, rfl⟩
      have hsy1 := y1.bel.size
      (try simp only [World.size_alloc, World.size_setCell, World.size_drew] at hsy1)
      go_wp2_with fail
      with_reducible refine (CR.out _ (hrr.out.bel (by (repeat (first | (with_reducible exact Below.refl _ _) | (with_reducible assumption) | (with_reducible refine Later.out _ ?_) | (with_reducible refine bel_alloc ?_ _) | (with_reducible refine bel_drew ?_) | (with_reducible refine bel_drewN ?_ _) | (with_reducible refine bel_set ?_ ?_ _) | (with_reducible refine After.out _ ?_ ?_) | (dsimp only; omega) | omega | (simp only [World.size_alloc, World.size_setCell, World.size_drew]; omega)))))).mono ?_
      rintro e w' ⟨rfl, y2, rfl⟩
      have hsy2 := y2.bel.size
      (try simp only [World.size_alloc, World.size_setCell, World.size_drew] at hsy2)
      have hw1 : w.heap.size < y1.w.heap.size := by omega
      have hw2 : w.heap.size < y2.w.heap.size := by omega
      have HO2 := Lib.hid (HO.out y2.w)
      go_wp2_with (at_builtin; (refine wpList_append_apart _ rfl _ _ _ rfl 57 ii _ 2 40 Tryz.underlying24 Jii.out.1 Jii.out.2.1 Jii.out.2.2.1 Jii.out.2.2.2 rfl (by decide) (y2.w.heap.size) (y2.w.heap.size + 1) ?qb33 _ _ _ ([]) rfl ?qb34 ?qb40 _ _ _ (vs) rfl ?qb35 ?qb36 ?qb37 ?qb38 ?qb39 ?_); (case qb33 => (first | (dsimp only; omega) | omega | (simp only [World.size_alloc, World.size_setCell, World.size_drew]; omega))); (case qb34 => exact HO2.out); (case qb40 => exact fun p hp => by cases hp; exact Nat.lt_succ_self _); (case qb35 => (first | rfl | (simp [boolCells]; done) | (simp [intCells]; done) | (simp; done) | (first | omega | (simp only [List.length_append, List.length_cons, List.length_nil]; omega)))); (case qb36 => exact hvr.out.bel (by (repeat (first | (with_reducible exact Below.refl _ _) | (with_reducible assumption) | (with_reducible refine Later.out _ ?_) | (with_reducible refine bel_alloc ?_ _) | (with_reducible refine bel_drew ?_) | (with_reducible refine bel_drewN ?_ _) | (with_reducible refine bel_set ?_ ?_ _) | (with_reducible refine After.out _ ?_ ?_) | (dsimp only; omega) | omega | (simp only [World.size_alloc, World.size_setCell, World.size_drew]; omega))))); (case qb37 => exact hv1.out); (case qb38 => (unfold maxLen; (first | omega | (simp only [List.length_append, List.length_cons, List.length_nil]; omega)))); (case qb39 => (first | omega | (simp only [List.length_append, List.length_cons, List.length_nil]; omega))); intro a3 c3 x3 hown3 hat3; have hs3 := x3.btw.size; (try simp only [World.size_alloc] at hs3); rw [Nat.zero_add, List.nil_append] at hown3; replace hat3 := Lib.hid hat3; replace hown3 := Lib.hid hown3)
      have hw3 : w.heap.size < x3.w.heap.size := by omega
      rcases hFc with rfl | ⟨k, hk, rfl, -⟩
      · go_wp2_with (go_at_call 87; (with_reducible refine (CF.out _ (hr.out.bel (by (repeat (first | (with_reducible exact Below.refl _ _) | (with_reducible assumption) | (with_reducible refine Later.out _ ?_) | (with_reducible refine bel_alloc ?_ _) | (with_reducible refine bel_drew ?_) | (with_reducible refine bel_drewN ?_ _) | (with_reducible refine bel_set ?_ ?_ _) | (with_reducible refine After.out _ ?_ ?_) | (dsimp only; omega) | omega | (simp only [World.size_alloc, World.size_setCell, World.size_drew]; omega))))) (hrr.out.bel (by (repeat (first | (with_reducible exact Below.refl _ _) | (with_reducible assumption) | (with_reducible refine Later.out _ ?_) | (with_reducible refine bel_alloc ?_ _) | (with_reducible refine bel_drew ?_) | (with_reducible refine bel_drewN ?_ _) | (with_reducible refine bel_set ?_ ?_ _) | (with_reducible refine After.out _ ?_ ?_) | (dsimp only; omega) | omega | (simp only [World.size_alloc, World.size_setCell, World.size_drew]; omega)))))).mono ?_); rintro e w' ⟨rfl, y4, rfl⟩; have hsy4 := y4.bel.size)
        have hw4 : w.heap.size < y4.w.heap.size := by omega
        obtain ⟨gg, gg', hg0, hgg, hg1, hog, hgl, hgo, -⟩ := own_tight hown3.out
        have hg2 : gg' ≤ x3.w.heap.size := Nat.le_trans hg1 (Nat.max_le.2 ⟨by omega, Nat.le_refl _⟩)
        replace hog := Lib.hid hog
        refine wp_region_plan2 [(0, true), (1, true), (2, true), (4, true), (5, true), (3, false), (6, true), (7, false), (8, false), (9, true)] (C := AfterC y2.w.heap.size x3.w.heap.size _) (by kernel_rfl) (by kernel_rfl) (by kernel_rfl) rfl (fun _ _ d _ _ h => by cases d <;> exact h) (AfterC.mk ((Between.refl _ _ _).drew)) ?_
        first | (refine plan_quiet nth0 rfl ?_; intro KP hKP; go_big_quiet_op; go_big_quiet_on) | (refine plan_skip_q nth0 rfl rfl ?_; simp only [Act.put, List.setIfInBounds_toArray, List.set_cons_zero, List.set_cons_succ])
        first | (refine plan_quiet nth1 rfl ?_; intro KP hKP; go_big_quiet_op; go_big_quiet_on) | (refine plan_skip_q nth1 rfl rfl ?_; simp only [Act.put, List.setIfInBounds_toArray, List.set_cons_zero, List.set_cons_succ])
        first | (refine plan_quiet nth2 rfl ?_; intro KP hKP; go_big_quiet_op; go_big_quiet_on) | (refine plan_skip_q nth2 rfl rfl ?_; simp only [Act.put, List.setIfInBounds_toArray, List.set_cons_zero, List.set_cons_succ])
        first | (refine plan_quiet nth4 rfl ?_; intro KP hKP; go_big_quiet_op; go_big_quiet_on) | (refine plan_skip_q nth4 rfl rfl ?_; simp only [Act.put, List.setIfInBounds_toArray, List.set_cons_zero, List.set_cons_succ])
        first | (refine plan_quiet nth5 rfl ?_; intro KP hKP; go_big_quiet_op; go_big_quiet_on) | (refine plan_skip_q nth5 rfl rfl ?_; simp only [Act.put, List.setIfInBounds_toArray, List.set_cons_zero, List.set_cons_succ])
        first | (refine plan_loud nth3 rfl ?_; intro KP hKP; go_wp2_with (first | (go_at_call 102; (with_reducible refine (CO.out _ (hrr.out.bel (by (repeat (first | (with_reducible exact Below.refl _ _) | (with_reducible assumption) | (with_reducible refine Later.out _ ?_) | (with_reducible refine bel_alloc ?_ _) | (with_reducible refine bel_drew ?_) | (with_reducible refine bel_drewN ?_ _) | (with_reducible refine bel_set ?_ ?_ _) | (with_reducible refine After.out _ ?_ ?_) | (dsimp only; omega) | omega | (simp only [World.size_alloc, World.size_setCell, World.size_drew]; omega)))))).mono ?_); rintro e w' ⟨a7, c7, rfl, hown, y7, rfl⟩; have hsz := y7.bel.size; (try simp only [World.size_alloc, World.size_setCell, World.size_drew] at hsz); (try have hz0 : w.heap.size < y7.w.heap.size := (by omega)); (try have hz1 : w.heap.size + 1 < y7.w.heap.size := (by omega)); (try have hz2 : w.heap.size + 1 + 1 < y7.w.heap.size := (by omega)); have HO7 := Lib.hid (Owns.of hown); clear hown)); refine hKP _ _ (AfterC.mk (by (repeat (first | (with_reducible exact Between.refl _ _ _) | (with_reducible refine Between.drew ?_) | (with_reducible refine Between.drewN ?_ _) | (with_reducible refine Between.set ?_ ?_ ?_ _) | (with_reducible refine btw_later _ ?_) | (with_reducible refine btw_alloc ?_ _) | (with_reducible refine btw_after _ ?_) | (with_reducible assumption) | (dsimp only; omega) | omega)))) ?_; clear hKP KP) | (refine plan_skip nth3 rfl rfl (AfterC.mk (by (repeat (first | (with_reducible exact Between.refl _ _ _) | (with_reducible refine Between.drew ?_) | (with_reducible refine Between.drewN ?_ _) | (with_reducible refine Between.set ?_ ?_ ?_ _) | (with_reducible refine btw_later _ ?_) | (with_reducible refine btw_alloc ?_ _) | (with_reducible refine btw_after _ ?_) | (with_reducible assumption) | (dsimp only; omega) | omega)))) ?_; simp only [Act.put, List.setIfInBounds_toArray, List.set_cons_zero, List.set_cons_succ])
        first | (refine plan_quiet nth6 rfl ?_; intro KP hKP; go_big_quiet_op; go_big_quiet_on) | (refine plan_skip_q nth6 rfl rfl ?_; simp only [Act.put, List.setIfInBounds_toArray, List.set_cons_zero, List.set_cons_succ])
        first | (refine plan_loud nth7 rfl ?_; intro KP hKP; go_wp2_with (first | (go_at_call 102; (with_reducible refine (CO.out _ (hrr.out.bel (by (repeat (first | (with_reducible exact Below.refl _ _) | (with_reducible assumption) | (with_reducible refine Later.out _ ?_) | (with_reducible refine bel_alloc ?_ _) | (with_reducible refine bel_drew ?_) | (with_reducible refine bel_drewN ?_ _) | (with_reducible refine bel_set ?_ ?_ _) | (with_reducible refine After.out _ ?_ ?_) | (dsimp only; omega) | omega | (simp only [World.size_alloc, World.size_setCell, World.size_drew]; omega)))))).mono ?_); rintro e w' ⟨a7, c7, rfl, hown, y7, rfl⟩; have hsz := y7.bel.size; (try simp only [World.size_alloc, World.size_setCell, World.size_drew] at hsz); (try have hz0 : w.heap.size < y7.w.heap.size := (by omega)); (try have hz1 : w.heap.size + 1 < y7.w.heap.size := (by omega)); (try have hz2 : w.heap.size + 1 + 1 < y7.w.heap.size := (by omega)); have HO7 := Lib.hid (Owns.of hown); clear hown)); refine hKP _ _ (AfterC.mk (by (repeat (first | (with_reducible exact Between.refl _ _ _) | (with_reducible refine Between.drew ?_) | (with_reducible refine Between.drewN ?_ _) | (with_reducible refine Between.set ?_ ?_ ?_ _) | (with_reducible refine btw_later _ ?_) | (with_reducible refine btw_alloc ?_ _) | (with_reducible refine btw_after _ ?_) | (with_reducible assumption) | (dsimp only; omega) | omega)))) ?_; clear hKP KP) | (refine plan_skip nth7 rfl rfl (AfterC.mk (by (repeat (first | (with_reducible exact Between.refl _ _ _) | (with_reducible refine Between.drew ?_) | (with_reducible refine Between.drewN ?_ _) | (with_reducible refine Between.set ?_ ?_ ?_ _) | (with_reducible refine btw_later _ ?_) | (with_reducible refine btw_alloc ?_ _) | (with_reducible refine btw_after _ ?_) | (with_reducible assumption) | (dsimp only; omega) | omega)))) ?_; simp only [Act.put, List.setIfInBounds_toArray, List.set_cons_zero, List.set_cons_succ])
        refine plan_loud nth8 rfl ?_
        intro KP hKP
        ((refine oper_append_apart _ _ _ _ rfl 57 ii _ 2 40 Tryz.underlying24 Jii.out.1 Jii.out.2.1 Jii.out.2.2.1 Jii.out.2.2.2 rfl (by decide) (gg) (gg') ?qb17 _ _ _ (vs) rfl ?qb18 ?qb24 _ _ _ (ruleV a7 c7 r) rfl ?qb19 ?qb20 ?qb21 ?qb22 ?qb23 ?_); (case qb17 => (first | (dsimp only; omega) | omega | (simp only [World.size_alloc, World.size_setCell, World.size_drew]; omega))); (case qb18 => exact own_bel hog.out (by (repeat (first | (with_reducible exact Below.refl _ _) | (with_reducible assumption) | (with_reducible refine Later.out _ ?_) | (with_reducible refine bel_alloc ?_ _) | (with_reducible refine bel_drew ?_) | (with_reducible refine bel_drewN ?_ _) | (with_reducible refine bel_set ?_ ?_ _) | (with_reducible refine After.out _ ?_ ?_) | (dsimp only; omega) | omega | (simp only [World.size_alloc, World.size_setCell, World.size_drew]; omega))))); (case qb24 => exact hgl); (case qb19 => (first | rfl | (simp [boolCells]; done) | (simp [intCells]; done) | (simp; done) | (first | omega | (simp only [List.length_append, List.length_cons, List.length_nil]; omega)))); (case qb20 => exact Row.made _ _ _); (case qb21 => exact one_ruleV _ _ _); (case qb22 => (unfold maxLen; (first | omega | (simp only [List.length_append, List.length_cons, List.length_nil]; omega)))); (case qb23 => (first | omega | (simp only [List.length_append, List.length_cons, List.length_nil]; omega))); intro a9 c9 x9 hown9 hat9; replace hat9 := Lib.hid hat9; replace hown9 := Lib.hid hown9; have hs9 := x9.btw.size; (try simp only [World.size_alloc, World.size_setCell, World.size_drew] at hs9))
        have hbw9 : Between y2.w.heap.size x3.w.heap.size y4.w x9.w := Between.trans (by (repeat (first | (with_reducible exact Between.refl _ _ _) | (with_reducible refine Between.drew ?_) | (with_reducible refine Between.drewN ?_ _) | (with_reducible refine Between.set ?_ ?_ ?_ _) | (with_reducible refine btw_later _ ?_) | (with_reducible refine btw_alloc ?_ _) | (with_reducible refine btw_after _ ?_) | (with_reducible assumption) | (dsimp only; omega) | omega))) (btw_wide x9.btw hg0 hg2)
        refine hKP _ _ (AfterC.mk hbw9) ?_
        clear hKP KP
        simp only [Act.put, List.setIfInBounds_toArray, List.set_cons_zero, List.set_cons_succ]
        refine plan_quiet nth9 rfl ?_
        intro KP hKP
        go_big_quiet_op
        go_big_quiet_on
        refine plan_nil ?_
        have hb9 : Below w.heap.size w x9.w := btw_below' (by (repeat (first | (with_reducible exact Below.refl _ _) | (with_reducible assumption) | (with_reducible refine Later.out _ ?_) | (with_reducible refine bel_alloc ?_ _) | (with_reducible refine bel_drew ?_) | (with_reducible refine bel_drewN ?_ _) | (with_reducible refine bel_set ?_ ?_ _) | (with_reducible refine After.out _ ?_ ?_) | (dsimp only; omega) | omega | (simp only [World.size_alloc, World.size_setCell, World.size_drew]; omega)))) x9.btw (by omega)
        have hc7 := ownsRow_cap HO7.out.own
        have hR : RulesR x9.w a9 (T ++ [r]) := by
          refine rules_of_vals (Row.of_own hown9.out) fun i hi => ?_
          simp only [List.length_append, List.length_cons, List.length_nil] at hi
          rcases Nat.lt_or_ge i T.length with h | h
          · obtain ⟨ai, ci, e1, e2, e3, e4⟩ := hvs.out i h
            rw [List.getElem_append_left h]
            exact ⟨ai, ci, by rw [List.getElem?_append_left (by omega)]; exact e1, by rw [List.getElem?_append_left (by omega)]; exact e2, e3.bel hb9, e4⟩
          · obtain rfl : i = T.length := by omega
            rw [show (T ++ [r])[T.length] = r by simp]
            refine ⟨a7, c7, by rw [List.getElem?_append_right (by omega), hvl, Nat.sub_self]; rfl, by rw [List.getElem?_append_right (by omega), hvl, show T.length * 2 + 1 - T.length * 2 = 1 by omega]; rfl, ?_, hc7⟩
            refine (HO7.out.row.bel (show Below y7.w.heap.size y7.w _ by (repeat (first | (with_reducible exact Below.refl _ _) | (with_reducible assumption) | (with_reducible refine Later.out _ ?_) | (with_reducible refine bel_alloc ?_ _) | (with_reducible refine bel_drew ?_) | (with_reducible refine bel_drewN ?_ _) | (with_reducible refine bel_set ?_ ?_ _) | (with_reducible refine After.out _ ?_ ?_) | (dsimp only; omega) | omega | (simp only [World.size_alloc, World.size_setCell, World.size_drew]; omega))))).btw x9.btw fun p hp => .inr ?_
            have := HO7.out.ge p hp
            simp only [World.size_drew] at this
            omega
        replace hR := Lib.hid hR
        clear hown9 hat9
        have HT := hTg.out (T ++ [r]) (by simp; omega) (fun x hx => by rcases List.mem_append.1 hx with h | h; exact hs x h; rw [List.mem_singleton.1 h]; exact hsr)
        have hlT : (T ++ [r]).length = T.length + 1 := by simp
        rw [hlT] at HT
        obtain ⟨B9, hB9⟩ : ∃ B, tableB (T ++ [r]) = B := ⟨_, rfl⟩
        have h30 := Lib.hid (show B9 = true → T.length + 1 ≤ 30 from fun h => by rw [← hlT]; exact tableB_len (hB9.trans h))
        simp only [hB9] at HT
        replace HT := Lib.hid HT
        clear hB9
        go_wp2_with fail
        with_reducible refine (HT.out _ _ _ hR.out).1.mono ?_
        rintro e w' ⟨rfl, y6, rfl⟩
        have hsy6 := y6.bel.size
        cases B9
        · go_wp2_with fail
          refine bodyPost_ret (by simp [results, Tryz.results90, go_sem, ↓IntWalk.iteOmega, *]; try rfl) rfl ?_
          exact .no 5 (by decide) rfl (by (repeat (first | (with_reducible exact Below.refl _ _) | (with_reducible assumption) | (with_reducible refine Later.out _ ?_) | (with_reducible refine bel_alloc ?_ _) | (with_reducible refine bel_drew ?_) | (with_reducible refine bel_drewN ?_ _) | (with_reducible refine bel_set ?_ ?_ _) | (with_reducible refine After.out _ ?_ ?_) | (dsimp only; omega) | omega | (simp only [World.size_alloc, World.size_setCell, World.size_drew]; omega))))
        · go_wp2_with fail
          with_reducible refine (HT.out _ _ _ (RulesR.bel hR.out (by (repeat (first | (with_reducible exact Below.refl _ _) | (with_reducible assumption) | (with_reducible refine Later.out _ ?_) | (with_reducible refine bel_alloc ?_ _) | (with_reducible refine bel_drew ?_) | (with_reducible refine bel_drewN ?_ _) | (with_reducible refine bel_set ?_ ?_ _) | (with_reducible refine After.out _ ?_ ?_) | (dsimp only; omega) | omega | (simp only [World.size_alloc, World.size_setCell, World.size_drew]; omega)))))).2.mono ?_
          rintro e w' ⟨T7, a7', n7, c7', rfl, hn7, hG7, y7', rfl⟩
          subst hn7
          have hsy7 := y7'.bel.size
          go_wp2_with fail
          refine bodyPost_ret (by simp [results, Tryz.results90, go_sem, ↓IntWalk.iteOmega, *]; try rfl) rfl ?_
          exact ⟨T7, a7', _, c7', 0, rfl, fun _ => ⟨by omega, h30.out trivial, hG7.wide (by omega)⟩, ⟨_, by (repeat (first | (with_reducible exact Below.refl _ _) | (with_reducible assumption) | (with_reducible refine Later.out _ ?_) | (with_reducible refine bel_alloc ?_ _) | (with_reducible refine bel_drew ?_) | (with_reducible refine bel_drewN ?_ _) | (with_reducible refine bel_set ?_ ?_ _) | (with_reducible refine After.out _ ?_ ?_) | (dsimp only; omega) | omega | (simp only [World.size_alloc, World.size_setCell, World.size_drew]; omega)))⟩, rfl⟩
      · obtain ⟨ak, ck, e1, e2, e3, e4, e5⟩ := hvs.out k hk
        have hk1 : (k : Int) < (T.length : Int) := by omega
        obtain ⟨b, o, ak', ck', rfl, hb, q0, q1, q2, q3, q4⟩ := hr.out.at_ hk
        obtain ⟨g3, rfl, hg3, hg3', hc3, hf3⟩ := (Owns.of hown3.out).at_ (j := k * 2) (by omega)
        obtain ⟨g4, e6, -, -, hc4, hf4⟩ := (Owns.of hown3.out).at_ (j := k * 2 + 1) (by omega)
        cases e6
        rw [e1] at hc3
        rw [e2] at hc4
        go_wp2_with (go_at_call 87; (with_reducible refine (CF.out _ (hr.out.bel (by (repeat (first | (with_reducible exact Below.refl _ _) | (with_reducible assumption) | (with_reducible refine Later.out _ ?_) | (with_reducible refine bel_alloc ?_ _) | (with_reducible refine bel_drew ?_) | (with_reducible refine bel_drewN ?_ _) | (with_reducible refine bel_set ?_ ?_ _) | (with_reducible refine After.out _ ?_ ?_) | (dsimp only; omega) | omega | (simp only [World.size_alloc, World.size_setCell, World.size_drew]; omega))))) (hrr.out.bel (by (repeat (first | (with_reducible exact Below.refl _ _) | (with_reducible assumption) | (with_reducible refine Later.out _ ?_) | (with_reducible refine bel_alloc ?_ _) | (with_reducible refine bel_drew ?_) | (with_reducible refine bel_drewN ?_ _) | (with_reducible refine bel_set ?_ ?_ _) | (with_reducible refine After.out _ ?_ ?_) | (dsimp only; omega) | omega | (simp only [World.size_alloc, World.size_setCell, World.size_drew]; omega)))))).mono ?_); rintro e w' ⟨rfl, y4, rfl⟩; have hsy4 := y4.bel.size)
        have hw4 : w.heap.size < y4.w.heap.size := by omega
        have hb2 : b < y2.w.heap.size := by omega
        have hb3 : b < x3.w.heap.size := by omega
        have hb4 : b < y4.w.heap.size := by omega
        have hg4 : g3 < y4.w.heap.size := by omega
        refine wp_region_plan [(0, true), (1, true), (2, true), (3, true), (4, true), (5, true), (6, true), (7, true), (8, true), (9, true), (10, true), (11, false)] (C := AfterC y2.w.heap.size x3.w.heap.size _) (by kernel_rfl) (by kernel_rfl) (by kernel_rfl) rfl (fun _ _ d _ _ h => by cases d <;> exact h) (AfterC.mk ((Between.refl _ _ _).drew)) ?_
        first | (refine plan_quiet nth0 rfl ?_; intro KP hKP; go_big_quiet_op; go_big_quiet_on) | (refine plan_skip_q nth0 rfl rfl ?_; simp only [Act.put, List.setIfInBounds_toArray, List.set_cons_zero, List.set_cons_succ])
        first | (refine plan_quiet nth1 rfl ?_; intro KP hKP; go_big_quiet_op; go_big_quiet_on) | (refine plan_skip_q nth1 rfl rfl ?_; simp only [Act.put, List.setIfInBounds_toArray, List.set_cons_zero, List.set_cons_succ])
        first | (refine plan_quiet nth2 rfl ?_; intro KP hKP; go_big_quiet_op; go_big_quiet_on) | (refine plan_skip_q nth2 rfl rfl ?_; simp only [Act.put, List.setIfInBounds_toArray, List.set_cons_zero, List.set_cons_succ])
        first | (refine plan_quiet nth3 rfl ?_; intro KP hKP; go_big_quiet_op; go_big_quiet_on) | (refine plan_skip_q nth3 rfl rfl ?_; simp only [Act.put, List.setIfInBounds_toArray, List.set_cons_zero, List.set_cons_succ])
        first | (refine plan_quiet nth4 rfl ?_; intro KP hKP; go_big_quiet_op; go_big_quiet_on) | (refine plan_skip_q nth4 rfl rfl ?_; simp only [Act.put, List.setIfInBounds_toArray, List.set_cons_zero, List.set_cons_succ])
        first | (refine plan_quiet nth5 rfl ?_; intro KP hKP; go_big_quiet_op; go_big_quiet_on) | (refine plan_skip_q nth5 rfl rfl ?_; simp only [Act.put, List.setIfInBounds_toArray, List.set_cons_zero, List.set_cons_succ])
        first | (refine plan_quiet nth6 rfl ?_; intro KP hKP; go_big_quiet_op; go_big_quiet_on) | (refine plan_skip_q nth6 rfl rfl ?_; simp only [Act.put, List.setIfInBounds_toArray, List.set_cons_zero, List.set_cons_succ])
        first | (refine plan_quiet nth7 rfl ?_; intro KP hKP; go_big_quiet_op; go_big_quiet_on) | (refine plan_skip_q nth7 rfl rfl ?_; simp only [Act.put, List.setIfInBounds_toArray, List.set_cons_zero, List.set_cons_succ])
        first | (refine plan_quiet nth8 rfl ?_; intro KP hKP; go_big_quiet_op; go_big_quiet_on) | (refine plan_skip_q nth8 rfl rfl ?_; simp only [Act.put, List.setIfInBounds_toArray, List.set_cons_zero, List.set_cons_succ])
        first | (refine plan_quiet nth9 rfl ?_; intro KP hKP; go_big_quiet_op; go_big_quiet_on) | (refine plan_skip_q nth9 rfl rfl ?_; simp only [Act.put, List.setIfInBounds_toArray, List.set_cons_zero, List.set_cons_succ])
        first | (refine plan_quiet nth10 rfl ?_; intro KP hKP; go_big_quiet_op; go_big_quiet_on) | (refine plan_skip_q nth10 rfl rfl ?_; simp only [Act.put, List.setIfInBounds_toArray, List.set_cons_zero, List.set_cons_succ])
        first | (refine plan_loud nth11 rfl ?_; intro KP hKP; go_wp2_with fail; refine hKP _ _ (AfterC.mk (by (repeat (first | (with_reducible exact Between.refl _ _ _) | (with_reducible refine Between.drew ?_) | (with_reducible refine Between.drewN ?_ _) | (with_reducible refine Between.set ?_ ?_ ?_ _) | (with_reducible refine btw_later _ ?_) | (with_reducible refine btw_alloc ?_ _) | (with_reducible refine btw_after _ ?_) | (with_reducible assumption) | (dsimp only; omega) | omega)))) ?_; clear hKP KP) | (refine plan_skip nth11 rfl rfl (AfterC.mk (by (repeat (first | (with_reducible exact Between.refl _ _ _) | (with_reducible refine Between.drew ?_) | (with_reducible refine Between.drewN ?_ _) | (with_reducible refine Between.set ?_ ?_ ?_ _) | (with_reducible refine btw_later _ ?_) | (with_reducible refine btw_alloc ?_ _) | (with_reducible refine btw_after _ ?_) | (with_reducible assumption) | (dsimp only; omega) | omega)))) ?_; simp only [Act.put, List.setIfInBounds_toArray, List.set_cons_zero, List.set_cons_succ])
        refine plan_nil ?_
        have hO4 : (((y4.w.setCell ⟨g3, k * 2, none⟩ (.slice ak' T[k].sg.length ck')).setCell ⟨g3, k * 2 + 1, none⟩ (.string r.rom)).drew).ownsRow y2.w.heap.size 57 2 (.slice (some ⟨g3, 0, none⟩) T.length c3) T.length ((vs.set (k * 2) (.slice ak' T[k].sg.length ck')).set (k * 2 + 1) (.string r.rom)) :=
          (((own_bel hown3.out y4.bel).stored (k * 2) _).1.stored (k * 2 + 1) _).1.drew
        have hb9 : Below w.heap.size w (((y4.w.setCell ⟨g3, k * 2, none⟩ (.slice ak' T[k].sg.length ck')).setCell ⟨g3, k * 2 + 1, none⟩ (.string r.rom)).drew) := by (repeat (first | (with_reducible exact Below.refl _ _) | (with_reducible assumption) | (with_reducible refine Later.out _ ?_) | (with_reducible refine bel_alloc ?_ _) | (with_reducible refine bel_drew ?_) | (with_reducible refine bel_drewN ?_ _) | (with_reducible refine bel_set ?_ ?_ _) | (with_reducible refine After.out _ ?_ ?_) | (dsimp only; omega) | omega | (simp only [World.size_alloc, World.size_setCell, World.size_drew]; omega)))
        have hR : RulesR (((y4.w.setCell ⟨g3, k * 2, none⟩ (.slice ak' T[k].sg.length ck')).setCell ⟨g3, k * 2 + 1, none⟩ (.string r.rom)).drew) (some ⟨g3, 0, none⟩) (T.set k ⟨T[k].sg, r.rom⟩) := by
          refine rules_of_vals (Row.of_own hO4) ?_
          refine vals_set hk hvl (q2.bel hb9) q3 q4 fun i hi => ?_
          obtain ⟨ai, ci, d1, d2, d3, d4⟩ := hvs.out i hi
          exact ⟨ai, ci, d1, d2, d3.bel hb9, d4⟩
        replace hR := Lib.hid hR
        have hTk := hs _ (List.getElem_mem hk)
        have hsmS := Lib.hid (show ∀ x ∈ T.set k ⟨T[k].sg, r.rom⟩, SmR x from fun x hx => by
          rcases List.mem_or_eq_of_mem_set hx with h | h
          · exact hs x h
          · subst h; exact ⟨hTk.s, hsr.t⟩)
        clear hO4
        have HT := hTg.out (T.set k ⟨T[k].sg, r.rom⟩) (by simp; omega) hsmS.out
        have hlT : (T.set k ⟨T[k].sg, r.rom⟩).length = T.length := by simp
        rw [hlT] at HT
        obtain ⟨B9, hB9⟩ : ∃ B, tableB (T.set k ⟨T[k].sg, r.rom⟩) = B := ⟨_, rfl⟩
        have h30 := Lib.hid (show B9 = true → T.length ≤ 30 from fun h => by rw [← hlT]; exact tableB_len (hB9.trans h))
        simp only [hB9] at HT
        replace HT := Lib.hid HT
        clear hB9
        go_wp2_with fail
        with_reducible refine (HT.out _ _ _ hR.out).1.mono ?_
        rintro e w' ⟨rfl, y6, rfl⟩
        have hsy6 := y6.bel.size
        cases B9
        · go_wp2_with fail
          refine bodyPost_ret (by simp [results, Tryz.results90, go_sem, ↓IntWalk.iteOmega, *]; try rfl) rfl ?_
          exact .no 5 (by decide) rfl (by (repeat (first | (with_reducible exact Below.refl _ _) | (with_reducible assumption) | (with_reducible refine Later.out _ ?_) | (with_reducible refine bel_alloc ?_ _) | (with_reducible refine bel_drew ?_) | (with_reducible refine bel_drewN ?_ _) | (with_reducible refine bel_set ?_ ?_ _) | (with_reducible refine After.out _ ?_ ?_) | (dsimp only; omega) | omega | (simp only [World.size_alloc, World.size_setCell, World.size_drew]; omega))))
        · go_wp2_with fail
          with_reducible refine (HT.out _ _ _ (RulesR.bel hR.out (by (repeat (first | (with_reducible exact Below.refl _ _) | (with_reducible assumption) | (with_reducible refine Later.out _ ?_) | (with_reducible refine bel_alloc ?_ _) | (with_reducible refine bel_drew ?_) | (with_reducible refine bel_drewN ?_ _) | (with_reducible refine bel_set ?_ ?_ _) | (with_reducible refine After.out _ ?_ ?_) | (dsimp only; omega) | omega | (simp only [World.size_alloc, World.size_setCell, World.size_drew]; omega)))))).2.mono ?_
          rintro e w' ⟨T7, a7', n7, c7', rfl, hn7, hG7, y7', rfl⟩
          subst hn7
          have hsy7 := y7'.bel.size
          go_wp2_with fail
          refine bodyPost_ret (by simp [results, Tryz.results90, go_sem, ↓IntWalk.iteOmega, *]; try rfl) rfl ?_
          exact ⟨T7, a7', _, c7', 0, rfl, fun _ => ⟨by omega, h30.out trivial, hG7.wide (by simp only [World.size_drew, World.size_setCell] at *; omega)⟩, ⟨_, by (repeat (first | (with_reducible exact Below.refl _ _) | (with_reducible assumption) | (with_reducible refine Later.out _ ?_) | (with_reducible refine bel_alloc ?_ _) | (with_reducible refine bel_drew ?_) | (with_reducible refine bel_drewN ?_ _) | (with_reducible refine bel_set ?_ ?_ _) | (with_reducible refine After.out _ ?_ ?_) | (dsimp only; omega) | omega | (simp only [World.size_alloc, World.size_setCell, World.size_drew]; omega)))⟩, rfl⟩
end Go.Proofs.YtemfhcmeeldngaaGreatDoor

import Derived.Test.YtklcaphkfdlipaaGreatDoorPackVa
import Derived.Test.YtklcaphkfdlipaaGreatDoorPackVb
import Derived.Test.YtklcaphkfdlipaaGreatDoorMapW
import Derived.Test.YtklcaphkfdlipaaGreatDoorSAptW
import Derived.Test.YtklcaphkfdlipaaGreatDoorPackVf
/- Several of my texts, one behind the other: TextS, VwV, VwA, VwS, AreW, Dsp. -/
/- Words and phrases, the reference's way. -/
set_option linter.unusedSimpArgs false
set_option linter.unusedVariables false
namespace Go.Proofs.YtklcaphkfdlipaaGreatDoor
open Go.RowKit
theorem byteAt {s : ByteArray} {k : Nat} (h : k < s.size) : s.data.toList[k]? = some s[k] := by
  rw [List.getElem?_eq_getElem (by rw [Array.length_toList]; exact h)]
  rfl
theorem all_take_succ {s : ByteArray} {k : Nat} {p : UInt8 → Bool} (h : k < s.size) (ha : (s.data.toList.take k).all p = true) (hp : p s[k] = true) : (s.data.toList.take (k + 1)).all p = true := by
  rw [List.take_add_one, byteAt h, List.all_append, ha]
  simp [hp]
theorem all_false_at {s : ByteArray} {k : Nat} {p : UInt8 → Bool} (h : k < s.size) (hp : p s[k] = false) : s.data.toList.all p = false := by
  rw [Bool.eq_false_iff]
  intro hh
  have := List.all_eq_true.1 hh s[k] (List.mem_of_getElem? (byteAt h))
  rw [hp] at this
  cases this
theorem wordB_not {s : ByteArray} (h : s.data.toList.all letterB = false) : wordB s = false := by simp [wordB, wordL, h]
theorem wordB_all {s : ByteArray} (h : s.data.toList.all letterB = true) : wordB s = inB s.size 1 16 := by
  rw [← smallB_word]; simp [smallB, h]
set_option maxHeartbeats 400000 in
theorem sIsWord_any (s : ByteArray) (w : World) (hs : s.size ≤ 1048576) : Calls Tryz.prog 140 #[.string s] w (Ret w (.bool (wordB s))) := by
  go_enter Tryz.func140, Tryz.ntmps140
  go_wp2_with fail
  go_loopw [3] (fun i wr => ∃ k : Nat, k ≤ s.size ∧ i = .int .i64 k ∧ (s.data.toList.take k).all letterB = true ∧ wr = w) (fun i _ => s.size - (intOf i).toNat)
  case atStart => exact ⟨0, Nat.zero_le _, rfl, rfl, rfl⟩
  case round =>
    obtain ⟨k, hk, rfl, hall, rfl⟩ := hrel
    replace hall := Lib.hid hall
    by_cases hlt : k < s.size
    · cases hl : letterB s[k]
      · have X := Lib.hid (wordB_not (all_false_at hlt hl))
        have hor : (s[k].toNat : Int) < 97 ∨ (97 ≤ (s[k].toNat : Int) ∧ 122 < (s[k].toNat : Int)) := by
          simp [letterB] at hl
          omega
        replace hl := Lib.hid hl
        rcases hor with h1 | ⟨h1, h2⟩
        all_goals
          go_wp2_with fail
          go_ret
          exact .mk (by rw [X.out]; rfl) bb
      · have X := Lib.hid (all_take_succ hlt hall.out hl)
        have h1 : 97 ≤ (s[k].toNat : Int) ∧ (s[k].toNat : Int) ≤ 122 := by
          simp [letterB] at hl
          omega
        obtain ⟨h1, h2⟩ := h1
        replace hl := Lib.hid hl
        go_wp2_with fail
        go_roundw
        case rel => exact ⟨k + 1, by omega, by go_num, X.out, by first | rfl | trivial⟩
        case measure => first | (simp [intOf]; done) | (simp [intOf]; omega) | omega
    · obtain rfl : k = s.size := by omega
      have X := Lib.hid (wordB_all (s := s) (by have h := hall.out; rwa [List.take_of_length_le (by rw [Array.length_toList]; exact Nat.le_refl _)] at h))
      go_wp2_with fail
      with_reducible refine (l01In_any _ _ _ _).mono ?_
      rintro e w' ⟨rfl, y1, rfl⟩
      have hsy1 := y1.bel.size
      (try simp only [World.size_alloc, World.size_setCell, World.size_drew] at hsy1)
      go_wp2_with fail
      go_ret
      exact .mk (by rw [X.out]; rfl) bb
/-- The call returned `f v` for some `v`. -/
def RetSome (w : World) (f : Value → Value) (e : Ending) (w' : World) : Prop := ∃ v, e = .returned (f v) ∧ ∃ y : Later w, w' = y.w
theorem RetSome.mk {w w' : World} {f : Value → Value} {e : Ending} (v : Value) (h : e = .returned (f v)) (hb : Below w.heap.size w w') : RetSome w f e w' := ⟨v, h, ⟨w', hb⟩, rfl⟩
end Go.Proofs.YtklcaphkfdlipaaGreatDoor

/- Are they views: both sides. -/
set_option linter.unusedSimpArgs false
set_option linter.unusedVariables false
namespace Go.Proofs.YtklcaphkfdlipaaGreatDoor
open Go.RowKit
/-- An owner: a word or no text. -/
def ownB (s : ByteArray) : Bool := s.toList.isEmpty || wordB s
/-- One view over so many rings. -/
def isVB (v : Vw) (n : Nat) : Bool := wordB v.holder && decide (v.own.length = n) && v.own.all ownB
/-- Its holder comes behind the one before. -/
def ordV (V : List Vw) : Nat → Bool
  | 0 => true
  | i + 1 => Op.bytesLess (V.getD i ⟨.empty, []⟩).holder.toList (V.getD (i + 1) ⟨.empty, []⟩).holder.toList
def vwP (V : List Vw) (n i : Nat) : Bool := isVB (V.getD i ⟨.empty, []⟩) n && ordV V i
def vwsB (V : List Vw) (n : Nat) : Bool := (List.range V.length).all (vwP V n)
noncomputable def viewsB (R : List (List Pt)) (V : List Vw) : Bool := mapB R && (vwsB V R.length && inB V.length 1 4)
theorem vwsB_no {V : List Vw} {n i : Nat} (h : i < V.length) (hf : vwP V n i = false) : vwsB V n = false := by
  unfold vwsB
  rw [Bool.eq_false_iff]; intro hh
  rw [List.all_eq_true.1 hh i (List.mem_range.2 h)] at hf
  cases hf
theorem vwsB_yes {V : List Vw} {n : Nat} (h : ∀ i, i < V.length → vwP V n i = true) : vwsB V n = true := List.all_eq_true.2 fun i hi => h i (List.mem_range.1 hi)
theorem vwsB_at {V : List Vw} {n i : Nat} (h : vwsB V n = true) (hi : i < V.length) : vwP V n i = true := List.all_eq_true.1 h i (List.mem_range.2 hi)
theorem getV {V : List Vw} {i : Nat} (h : i < V.length) : V.getD i ⟨.empty, []⟩ = V[i] := by simp [h]
set_option maxHeartbeats 1000000 in
theorem isView1_any (s : ByteArray) (w : World) (hs : s.size ≤ 1048576) : Calls Tryz.prog 126 #[.string s] w (Ret w (.bool (!ownB s))) := by
  have CW := Lib.hid (fun w => isWord_any s w hs)
  have X : ownB s = (s.toList.isEmpty || wordB s) := rfl
  generalize ownB s = B at *
  generalize wordB s = W at *
  have X := Lib.hid X
  cases he : s.toList.isEmpty
  · have Y := Lib.hid (show B = W by rw [X.out, he]; rfl)
    clear X
    go_enter Tryz.func126, Tryz.ntmps126
    go_wp2_with fail
    with_reducible refine (CW.out _).mono ?_
    rintro e w' ⟨rfl, y1, rfl⟩
    have hsy1 := y1.bel.size
    (try simp only [World.size_alloc, World.size_setCell, World.size_drew] at hsy1)
    go_wp2_with fail
    go_ret
    exact .mk (by rw [Y.out]; rfl) bb
  · have Y := Lib.hid (show B = true by rw [X.out, he]; rfl)
    clear X
    go_enter Tryz.func126, Tryz.ntmps126
    go_wp2_with fail
    go_ret
    exact .mk (by rw [Y.out]; rfl) bb
theorem tells_isView1 {L : List ByteArray} {w : World} (ok : ∀ s ∈ L, s.size ≤ 1048576) : TellsS 126 #[] #[] (fun s => !ownB s) L w :=
  fun s hs w' hb => by simpa using isView1_any s w' (ok s hs)
theorem enters_isView1 : ∀ args w, (callFunc 126 args).run Tryz.prog w = .ok (.enter 126 args) w := fun _ _ => by kernel_rfl
set_option maxHeartbeats 1000000 in
theorem isView_any (v : Vw) (n : Nat) (a : Option Addr) (c : Nat) (w : World) (ok : VwOk v) (hr : Row w a (strCells v.own)) :
    Calls Tryz.prog 88 #[.agg #[.string v.holder, .slice a v.own.length c], .int .i64 n] w (Ret w (.bool (isVB v n))) := by
  obtain ⟨k1, k2, k3⟩ := ok
  have CW := fun w => isWord_any v.holder w k1
  have CC := fun (w : World) (hr : Row w a (strCells v.own)) => containsFuncS_any 126 #[] #[] (fun s => !ownB s) v.own a v.own.length c w enters_isView1 rfl k2 hr (tells_isView1 k3)
  rw [any_not_all] at CC
  have X : isVB v n = (wordB v.holder && decide (v.own.length = n) && v.own.all ownB) := rfl
  generalize isVB v n = B at *
  generalize wordB v.holder = W at *
  generalize v.own.all ownB = O at *
  replace X := Lib.hid X
  replace hr := Lib.hid hr
  replace CW := Lib.hid CW
  replace CC := Lib.hid CC
  clear k3 k1
  cases W
  · have Y := Lib.hid (show B = false by rw [X.out]; rfl)
    clear X
    go_enter Tryz.func88, Tryz.ntmps88
    go_wp2_with fail
    with_reducible refine (CW.out _).mono ?_
    rintro e w' ⟨rfl, y1, rfl⟩
    have hsy1 := y1.bel.size
    (try simp only [World.size_alloc, World.size_setCell, World.size_drew] at hsy1)
    go_wp2_with fail
    go_ret
    exact .mk (by rw [Y.out]; rfl) bb
  · by_cases hl : v.own.length = n
    · have Y := Lib.hid (show B = O by rw [X.out, decide_eq_true hl]; rfl)
      have hl1 : ((v.own.length : Int) == (n : Int)) = true := by simp [hl]
      clear X hl
      go_enter Tryz.func88, Tryz.ntmps88
      go_wp2_with fail
      with_reducible refine (CW.out _).mono ?_
      rintro e w' ⟨rfl, y1, rfl⟩
      have hsy1 := y1.bel.size
      (try simp only [World.size_alloc, World.size_setCell, World.size_drew] at hsy1)
      have l0 : w.heap.size < y1.w.heap.size := by omega
      go_wp2_with fail
      with_reducible refine (CC.out _ (hr.out.bel bb)).mono ?_
      rintro e w' ⟨rfl, y2, rfl⟩
      have hsy2 := y2.bel.size
      (try simp only [World.size_alloc, World.size_setCell, World.size_drew] at hsy2)
      go_wp2_with fail
      go_ret
      exact .mk (by rw [Y.out]; first | rfl | simp) bb
    · have Y := Lib.hid (show B = false by rw [X.out, decide_eq_false hl]; rfl)
      have hl1 : ((v.own.length : Int) == (n : Int)) = false := by rw [beq_eq_false_iff_ne]; omega
      clear X
      go_enter Tryz.func88, Tryz.ntmps88
      go_wp2_with fail
      with_reducible refine (CW.out _).mono ?_
      rintro e w' ⟨rfl, y1, rfl⟩
      have hsy1 := y1.bel.size
      (try simp only [World.size_alloc, World.size_setCell, World.size_drew] at hsy1)
      have l0 : w.heap.size < y1.w.heap.size := by omega
      go_wp2_with fail
      go_ret
      exact .mk (by rw [Y.out]; rfl) bb
end Go.Proofs.YtklcaphkfdlipaaGreatDoor

/- Are they views over a map: both sides. -/
set_option linter.unusedSimpArgs false
set_option linter.unusedVariables false
namespace Go.Proofs.YtklcaphkfdlipaaGreatDoor
open Go.RowKit
theorem lengthV_any (a : Option Addr) (n c : Nat) (w : World) : Calls Tryz.prog 89 #[.slice a n c] w (Ret w (.int .i64 n)) := by
  go_enter Tryz.func89, Tryz.ntmps89
  go_wp2
  go_ret
  exact .mk (by simp) (Below.refl _ _)
theorem vwP_at {V : List Vw} {n i : Nat} (h : i < V.length) : vwP V n i = (isVB V[i] n && ordV V i) := by unfold vwP; rw [getV h]
theorem ordV_succ {V : List Vw} {i : Nat} (h : i + 1 < V.length) : ordV V (i + 1) = Op.bytesLess V[i].holder.toList V[i + 1].holder.toList := by
  show Op.bytesLess (V.getD i ⟨.empty, []⟩).holder.toList (V.getD (i + 1) ⟨.empty, []⟩).holder.toList = _
  rw [getV h, getV (by omega)]
set_option maxRecDepth 4000 in
set_option maxHeartbeats 4000000 in
theorem areViews_any (R : List (List Pt)) (V : List Vw) (a b : Option Addr) (n c m d : Nat) (w : World) (hn : R.length = n) (hm : n ≤ 1048576) (hc : n ≤ c) (hcm : c ≤ maxLen) (ok : ∀ r ∈ R, r.length ≤ 1048576) (hr : RingsR w a R)
    (hn' : V.length = m) (hm' : m ≤ 1048576) (ok' : ∀ v ∈ V, VwOk v) (hr' : ViewsR w b V) :
    Calls Tryz.prog 42 #[.slice a n c, .slice b m d] w (Ret w (.bool (viewsB R V))) := by
  subst hn hn'
  have CM := Lib.hid (fun (w : World) (hr : RingsR w a R) => isMap_any R a R.length c w rfl hm hc hcm ok hr)
  have X : viewsB R V = (mapB R && (vwsB V R.length && inB V.length 1 4)) := rfl
  have XN := Lib.hid (fun (i : Nat) (h : i < V.length) hf => vwsB_no (n := R.length) h hf)
  have XY := Lib.hid (fun h => vwsB_yes (V := V) (n := R.length) h)
  generalize viewsB R V = B at *
  generalize mapB R = MB at *
  generalize vwsB V R.length = VB at *
  replace X := Lib.hid X
  replace hr := Lib.hid hr
  replace hr' := Lib.hid hr'
  replace ok' := Lib.hid ok'
  clear ok hcm
  go_enter Tryz.func42, Tryz.ntmps42
  go_wp2_with fail
  go_loopw [9] (fun t9 wr => ∃ k : Nat, k ≤ V.length ∧ t9 = .int .i64 k ∧ (∀ i, i < k → vwP V R.length i = true) ∧ ∃ z : Later w, wr = z.w) (fun t9 _ => V.length - (intOf t9).toNat)
  case atStart => exact ⟨0, Nat.zero_le _, rfl, fun i h => absurd h (by omega), ⟨_, Below.refl _ _⟩, rfl⟩
  case round =>
    obtain ⟨k, hk, rfl, hgood, z, rfl⟩ := hrel
    have hzz := z.bel.size
    replace hgood := Lib.hid hgood
    by_cases hlt : k < V.length
    · have hk1 : (k : Int) < (V.length : Int) := by omega
      obtain ⟨b1, o1, ai, ci, rfl, hb, q0, q1, q2, -, -⟩ := hr'.out.at_ hlt
      have CV := fun (w : World) (hr : Row w ai (strCells V[k].own)) => isView_any V[k] R.length ai ci w (ok'.out _ (List.getElem_mem hlt)) hr
      have e := vwP_at (n := R.length) hlt
      have Y := fun (h : vwP V R.length k = true) => (show ∀ i, i < k + 1 → vwP V R.length i = true from fun i hi => by
        rcases Nat.lt_or_ge i k with h1 | h1
        · exact hgood.out i h1
        · obtain rfl : i = k := by omega
          exact h)
      have N := fun (h : vwP V R.length k = false) => XN.out k hlt h
      replace q2 := Lib.hid q2
      have hbz : b1 < z.w.heap.size := by omega
      have hbv : ∃ B1, isVB V[k] R.length = B1 := ⟨_, rfl⟩
      obtain ⟨B1, hB1⟩ := hbv
      rw [hB1] at e
      simp only [hB1] at CV
      clear hB1
      replace CV := Lib.hid CV
      cases B1
      · have X2 := Lib.hid (show B = false by rw [X.out, N (by rw [e]; rfl)]; simp)
        clear Y N e
        go_wp2_with fail
        refine wp_region_plan2 [(0, true), (1, true), (2, true), (3, false), (4, true), (5, true), (6, true), (7, true), (8, true), (9, true), (10, true), (11, true), (12, true), (13, true), (14, true), (15, true), (16, true), (17, true), (18, true), (19, true)] (C := LaterC _) (by kernel_rfl) (by kernel_rfl) (by kernel_rfl) rfl (fun _ _ d _ _ h => by cases d <;> exact h) (LaterC.mk ((Below.refl _ _).drew)) ?_
        first | (refine plan_quiet nth0 rfl ?_; intro KP hKP; go_big_quiet_op; go_big_quiet_on) | (refine plan_skip_q nth0 rfl rfl ?_; simp only [Act.put, List.setIfInBounds_toArray, List.set_cons_zero, List.set_cons_succ])
        first | (refine plan_quiet nth1 rfl ?_; intro KP hKP; go_big_quiet_op; go_big_quiet_on) | (refine plan_skip_q nth1 rfl rfl ?_; simp only [Act.put, List.setIfInBounds_toArray, List.set_cons_zero, List.set_cons_succ])
        first | (refine plan_quiet nth2 rfl ?_; intro KP hKP; go_big_quiet_op; go_big_quiet_on) | (refine plan_skip_q nth2 rfl rfl ?_; simp only [Act.put, List.setIfInBounds_toArray, List.set_cons_zero, List.set_cons_succ])
        first | (refine plan_loud nth3 rfl ?_; intro KP hKP; go_wp2_with (first | (go_at_call 88; first | ((with_reducible refine (Calls.later (CV.out _ (q2.out.bel bb))).mono ?_); rintro e w' ⟨rfl, xl, rfl⟩; have hsz := xl.bel.size; (try simp only [World.size_alloc, World.size_setCell, World.size_drew] at hsz); (try have hz0 : w.heap.size < xl.w.heap.size := (by omega)); (try have hz1 : w.heap.size + 1 < xl.w.heap.size := (by omega)); (try have hz2 : w.heap.size + 1 + 1 < xl.w.heap.size := (by omega))) | ((with_reducible refine (CV.out _ (q2.out.bel bb)).mono ?_); rintro e w' ⟨rfl, xl, rfl⟩; have hsz := xl.bel.size; (try simp only [World.size_alloc, World.size_setCell, World.size_drew] at hsz); (try have hz0 : w.heap.size < xl.w.heap.size := (by omega)); (try have hz1 : w.heap.size + 1 < xl.w.heap.size := (by omega)); (try have hz2 : w.heap.size + 1 + 1 < xl.w.heap.size := (by omega))))); refine hKP _ _ (LaterC.mk bb) ?_; clear hKP KP) | (refine plan_skip nth3 rfl rfl (LaterC.mk bb) ?_; simp only [Act.put, List.setIfInBounds_toArray, List.set_cons_zero, List.set_cons_succ])
        first | (refine plan_quiet nth4 rfl ?_; intro KP hKP; go_big_quiet_op; go_big_quiet_on) | (refine plan_skip_q nth4 rfl rfl ?_; simp only [Act.put, List.setIfInBounds_toArray, List.set_cons_zero, List.set_cons_succ])
        first | (refine plan_quiet nth5 rfl ?_; intro KP hKP; go_big_quiet_op; go_big_quiet_on) | (refine plan_skip_q nth5 rfl rfl ?_; simp only [Act.put, List.setIfInBounds_toArray, List.set_cons_zero, List.set_cons_succ])
        first | (refine plan_quiet nth6 rfl ?_; intro KP hKP; go_big_quiet_op; go_big_quiet_on) | (refine plan_skip_q nth6 rfl rfl ?_; simp only [Act.put, List.setIfInBounds_toArray, List.set_cons_zero, List.set_cons_succ])
        first | (refine plan_quiet nth7 rfl ?_; intro KP hKP; go_big_quiet_op; go_big_quiet_on) | (refine plan_skip_q nth7 rfl rfl ?_; simp only [Act.put, List.setIfInBounds_toArray, List.set_cons_zero, List.set_cons_succ])
        first | (refine plan_quiet nth8 rfl ?_; intro KP hKP; go_big_quiet_op; go_big_quiet_on) | (refine plan_skip_q nth8 rfl rfl ?_; simp only [Act.put, List.setIfInBounds_toArray, List.set_cons_zero, List.set_cons_succ])
        first | (refine plan_quiet nth9 rfl ?_; intro KP hKP; go_big_quiet_op; go_big_quiet_on) | (refine plan_skip_q nth9 rfl rfl ?_; simp only [Act.put, List.setIfInBounds_toArray, List.set_cons_zero, List.set_cons_succ])
        first | (refine plan_quiet nth10 rfl ?_; intro KP hKP; go_big_quiet_op; go_big_quiet_on) | (refine plan_skip_q nth10 rfl rfl ?_; simp only [Act.put, List.setIfInBounds_toArray, List.set_cons_zero, List.set_cons_succ])
        first | (refine plan_quiet nth11 rfl ?_; intro KP hKP; go_big_quiet_op; go_big_quiet_on) | (refine plan_skip_q nth11 rfl rfl ?_; simp only [Act.put, List.setIfInBounds_toArray, List.set_cons_zero, List.set_cons_succ])
        first | (refine plan_quiet nth12 rfl ?_; intro KP hKP; go_big_quiet_op; go_big_quiet_on) | (refine plan_skip_q nth12 rfl rfl ?_; simp only [Act.put, List.setIfInBounds_toArray, List.set_cons_zero, List.set_cons_succ])
        first | (refine plan_quiet nth13 rfl ?_; intro KP hKP; go_big_quiet_op; go_big_quiet_on) | (refine plan_skip_q nth13 rfl rfl ?_; simp only [Act.put, List.setIfInBounds_toArray, List.set_cons_zero, List.set_cons_succ])
        first | (refine plan_quiet nth14 rfl ?_; intro KP hKP; go_big_quiet_op; go_big_quiet_on) | (refine plan_skip_q nth14 rfl rfl ?_; simp only [Act.put, List.setIfInBounds_toArray, List.set_cons_zero, List.set_cons_succ])
        first | (refine plan_quiet nth15 rfl ?_; intro KP hKP; go_big_quiet_op; go_big_quiet_on) | (refine plan_skip_q nth15 rfl rfl ?_; simp only [Act.put, List.setIfInBounds_toArray, List.set_cons_zero, List.set_cons_succ])
        first | (refine plan_quiet nth16 rfl ?_; intro KP hKP; go_big_quiet_op; go_big_quiet_on) | (refine plan_skip_q nth16 rfl rfl ?_; simp only [Act.put, List.setIfInBounds_toArray, List.set_cons_zero, List.set_cons_succ])
        first | (refine plan_quiet nth17 rfl ?_; intro KP hKP; go_big_quiet_op; go_big_quiet_on) | (refine plan_skip_q nth17 rfl rfl ?_; simp only [Act.put, List.setIfInBounds_toArray, List.set_cons_zero, List.set_cons_succ])
        first | (refine plan_quiet nth18 rfl ?_; intro KP hKP; go_big_quiet_op; go_big_quiet_on) | (refine plan_skip_q nth18 rfl rfl ?_; simp only [Act.put, List.setIfInBounds_toArray, List.set_cons_zero, List.set_cons_succ])
        first | (refine plan_quiet nth19 rfl ?_; intro KP hKP; go_big_quiet_op; go_big_quiet_on) | (refine plan_skip_q nth19 rfl rfl ?_; simp only [Act.put, List.setIfInBounds_toArray, List.set_cons_zero, List.set_cons_succ])
        refine plan_nil ?_
        go_wp2_with fail
        go_ret
        exact .mk (by rw [X2.out]; rfl) bb
      · rcases Nat.eq_zero_or_pos k with hk0 | hk0
        · have Z := Lib.hid (Y (by rw [e]; subst hk0; rfl))
          have hgt : ¬ (0 < k) := by omega
          clear Y N e hk0
          go_wp2_with fail
          refine wp_region_plan2 [(0, true), (1, true), (2, true), (3, false), (4, true), (5, true), (6, true), (7, true), (8, true), (9, true), (10, true), (11, true), (12, true), (13, true), (14, true), (15, true), (16, true), (17, true), (18, true), (19, true)] (C := LaterC _) (by kernel_rfl) (by kernel_rfl) (by kernel_rfl) rfl (fun _ _ d _ _ h => by cases d <;> exact h) (LaterC.mk ((Below.refl _ _).drew)) ?_
          first | (refine plan_quiet nth0 rfl ?_; intro KP hKP; go_big_quiet_op; go_big_quiet_on) | (refine plan_skip_q nth0 rfl rfl ?_; simp only [Act.put, List.setIfInBounds_toArray, List.set_cons_zero, List.set_cons_succ])
          first | (refine plan_quiet nth1 rfl ?_; intro KP hKP; go_big_quiet_op; go_big_quiet_on) | (refine plan_skip_q nth1 rfl rfl ?_; simp only [Act.put, List.setIfInBounds_toArray, List.set_cons_zero, List.set_cons_succ])
          first | (refine plan_quiet nth2 rfl ?_; intro KP hKP; go_big_quiet_op; go_big_quiet_on) | (refine plan_skip_q nth2 rfl rfl ?_; simp only [Act.put, List.setIfInBounds_toArray, List.set_cons_zero, List.set_cons_succ])
          first | (refine plan_loud nth3 rfl ?_; intro KP hKP; go_wp2_with (first | (go_at_call 88; first | ((with_reducible refine (Calls.later (CV.out _ (q2.out.bel bb))).mono ?_); rintro e w' ⟨rfl, xl, rfl⟩; have hsz := xl.bel.size; (try simp only [World.size_alloc, World.size_setCell, World.size_drew] at hsz); (try have hz0 : w.heap.size < xl.w.heap.size := (by omega)); (try have hz1 : w.heap.size + 1 < xl.w.heap.size := (by omega)); (try have hz2 : w.heap.size + 1 + 1 < xl.w.heap.size := (by omega))) | ((with_reducible refine (CV.out _ (q2.out.bel bb)).mono ?_); rintro e w' ⟨rfl, xl, rfl⟩; have hsz := xl.bel.size; (try simp only [World.size_alloc, World.size_setCell, World.size_drew] at hsz); (try have hz0 : w.heap.size < xl.w.heap.size := (by omega)); (try have hz1 : w.heap.size + 1 < xl.w.heap.size := (by omega)); (try have hz2 : w.heap.size + 1 + 1 < xl.w.heap.size := (by omega))))); refine hKP _ _ (LaterC.mk bb) ?_; clear hKP KP) | (refine plan_skip nth3 rfl rfl (LaterC.mk bb) ?_; simp only [Act.put, List.setIfInBounds_toArray, List.set_cons_zero, List.set_cons_succ])
          first | (refine plan_quiet nth4 rfl ?_; intro KP hKP; go_big_quiet_op; go_big_quiet_on) | (refine plan_skip_q nth4 rfl rfl ?_; simp only [Act.put, List.setIfInBounds_toArray, List.set_cons_zero, List.set_cons_succ])
          first | (refine plan_quiet nth5 rfl ?_; intro KP hKP; go_big_quiet_op; go_big_quiet_on) | (refine plan_skip_q nth5 rfl rfl ?_; simp only [Act.put, List.setIfInBounds_toArray, List.set_cons_zero, List.set_cons_succ])
          first | (refine plan_quiet nth6 rfl ?_; intro KP hKP; go_big_quiet_op; go_big_quiet_on) | (refine plan_skip_q nth6 rfl rfl ?_; simp only [Act.put, List.setIfInBounds_toArray, List.set_cons_zero, List.set_cons_succ])
          first | (refine plan_quiet nth7 rfl ?_; intro KP hKP; go_big_quiet_op; go_big_quiet_on) | (refine plan_skip_q nth7 rfl rfl ?_; simp only [Act.put, List.setIfInBounds_toArray, List.set_cons_zero, List.set_cons_succ])
          first | (refine plan_quiet nth8 rfl ?_; intro KP hKP; go_big_quiet_op; go_big_quiet_on) | (refine plan_skip_q nth8 rfl rfl ?_; simp only [Act.put, List.setIfInBounds_toArray, List.set_cons_zero, List.set_cons_succ])
          first | (refine plan_quiet nth9 rfl ?_; intro KP hKP; go_big_quiet_op; go_big_quiet_on) | (refine plan_skip_q nth9 rfl rfl ?_; simp only [Act.put, List.setIfInBounds_toArray, List.set_cons_zero, List.set_cons_succ])
          first | (refine plan_quiet nth10 rfl ?_; intro KP hKP; go_big_quiet_op; go_big_quiet_on) | (refine plan_skip_q nth10 rfl rfl ?_; simp only [Act.put, List.setIfInBounds_toArray, List.set_cons_zero, List.set_cons_succ])
          first | (refine plan_quiet nth11 rfl ?_; intro KP hKP; go_big_quiet_op; go_big_quiet_on) | (refine plan_skip_q nth11 rfl rfl ?_; simp only [Act.put, List.setIfInBounds_toArray, List.set_cons_zero, List.set_cons_succ])
          first | (refine plan_quiet nth12 rfl ?_; intro KP hKP; go_big_quiet_op; go_big_quiet_on) | (refine plan_skip_q nth12 rfl rfl ?_; simp only [Act.put, List.setIfInBounds_toArray, List.set_cons_zero, List.set_cons_succ])
          first | (refine plan_quiet nth13 rfl ?_; intro KP hKP; go_big_quiet_op; go_big_quiet_on) | (refine plan_skip_q nth13 rfl rfl ?_; simp only [Act.put, List.setIfInBounds_toArray, List.set_cons_zero, List.set_cons_succ])
          first | (refine plan_quiet nth14 rfl ?_; intro KP hKP; go_big_quiet_op; go_big_quiet_on) | (refine plan_skip_q nth14 rfl rfl ?_; simp only [Act.put, List.setIfInBounds_toArray, List.set_cons_zero, List.set_cons_succ])
          first | (refine plan_quiet nth15 rfl ?_; intro KP hKP; go_big_quiet_op; go_big_quiet_on) | (refine plan_skip_q nth15 rfl rfl ?_; simp only [Act.put, List.setIfInBounds_toArray, List.set_cons_zero, List.set_cons_succ])
          first | (refine plan_quiet nth16 rfl ?_; intro KP hKP; go_big_quiet_op; go_big_quiet_on) | (refine plan_skip_q nth16 rfl rfl ?_; simp only [Act.put, List.setIfInBounds_toArray, List.set_cons_zero, List.set_cons_succ])
          first | (refine plan_quiet nth17 rfl ?_; intro KP hKP; go_big_quiet_op; go_big_quiet_on) | (refine plan_skip_q nth17 rfl rfl ?_; simp only [Act.put, List.setIfInBounds_toArray, List.set_cons_zero, List.set_cons_succ])
          first | (refine plan_quiet nth18 rfl ?_; intro KP hKP; go_big_quiet_op; go_big_quiet_on) | (refine plan_skip_q nth18 rfl rfl ?_; simp only [Act.put, List.setIfInBounds_toArray, List.set_cons_zero, List.set_cons_succ])
          first | (refine plan_quiet nth19 rfl ?_; intro KP hKP; go_big_quiet_op; go_big_quiet_on) | (refine plan_skip_q nth19 rfl rfl ?_; simp only [Act.put, List.setIfInBounds_toArray, List.set_cons_zero, List.set_cons_succ])
          refine plan_nil ?_
          go_wp2_with fail
          go_roundw
          case rel => exact ⟨k + 1, by omega, by go_num, Z.out, LaterC.mk bb⟩
          case measure => first | (simp [intOf]; done) | (simp [intOf]; omega) | omega
        · obtain ⟨j, rfl⟩ : ∃ j, k = j + 1 := ⟨k - 1, by omega⟩
          obtain ⟨b2, o2, aj, cj, he, hb2, s0, -, -, -, -⟩ := hr'.out.at_ (i := j) (by omega)
          cases he
          rw [ordV_succ hlt] at e
          have hgt : ((0 : Int) < (j : Int) + 1) := by omega
          have hjv : (j : Int) < (V.length : Int) := by omega
          generalize V[j].holder = h1 at *
          generalize V[j + 1].holder = h2 at *
          replace hk0 := Lib.hid hk0
          cases hl : Op.bytesLess h1.toList h2.toList
          · have X2 := Lib.hid (show B = false by rw [X.out, N (by rw [e, hl]; rfl)]; simp)
            clear Y N e
            go_wp2_with fail
            refine wp_region_plan2 [(0, true), (1, true), (2, true), (3, false), (4, true), (5, true), (6, true), (7, true), (8, true), (9, true), (10, true), (11, true), (12, true), (13, true), (14, true), (15, true), (16, true), (17, true), (18, true), (19, true)] (C := LaterC _) (by kernel_rfl) (by kernel_rfl) (by kernel_rfl) rfl (fun _ _ d _ _ h => by cases d <;> exact h) (LaterC.mk ((Below.refl _ _).drew)) ?_
            first | (refine plan_quiet nth0 rfl ?_; intro KP hKP; go_big_quiet_op; go_big_quiet_on) | (refine plan_skip_q nth0 rfl rfl ?_; simp only [Act.put, List.setIfInBounds_toArray, List.set_cons_zero, List.set_cons_succ])
            first | (refine plan_quiet nth1 rfl ?_; intro KP hKP; go_big_quiet_op; go_big_quiet_on) | (refine plan_skip_q nth1 rfl rfl ?_; simp only [Act.put, List.setIfInBounds_toArray, List.set_cons_zero, List.set_cons_succ])
            first | (refine plan_quiet nth2 rfl ?_; intro KP hKP; go_big_quiet_op; go_big_quiet_on) | (refine plan_skip_q nth2 rfl rfl ?_; simp only [Act.put, List.setIfInBounds_toArray, List.set_cons_zero, List.set_cons_succ])
            first | (refine plan_loud nth3 rfl ?_; intro KP hKP; go_wp2_with (first | (go_at_call 88; first | ((with_reducible refine (Calls.later (CV.out _ (q2.out.bel bb))).mono ?_); rintro e w' ⟨rfl, xl, rfl⟩; have hsz := xl.bel.size; (try simp only [World.size_alloc, World.size_setCell, World.size_drew] at hsz); (try have hz0 : w.heap.size < xl.w.heap.size := (by omega)); (try have hz1 : w.heap.size + 1 < xl.w.heap.size := (by omega)); (try have hz2 : w.heap.size + 1 + 1 < xl.w.heap.size := (by omega))) | ((with_reducible refine (CV.out _ (q2.out.bel bb)).mono ?_); rintro e w' ⟨rfl, xl, rfl⟩; have hsz := xl.bel.size; (try simp only [World.size_alloc, World.size_setCell, World.size_drew] at hsz); (try have hz0 : w.heap.size < xl.w.heap.size := (by omega)); (try have hz1 : w.heap.size + 1 < xl.w.heap.size := (by omega)); (try have hz2 : w.heap.size + 1 + 1 < xl.w.heap.size := (by omega))))); refine hKP _ _ (LaterC.mk bb) ?_; clear hKP KP) | (refine plan_skip nth3 rfl rfl (LaterC.mk bb) ?_; simp only [Act.put, List.setIfInBounds_toArray, List.set_cons_zero, List.set_cons_succ])
            first | (refine plan_quiet nth4 rfl ?_; intro KP hKP; go_big_quiet_op; go_big_quiet_on) | (refine plan_skip_q nth4 rfl rfl ?_; simp only [Act.put, List.setIfInBounds_toArray, List.set_cons_zero, List.set_cons_succ])
            first | (refine plan_quiet nth5 rfl ?_; intro KP hKP; go_big_quiet_op; go_big_quiet_on) | (refine plan_skip_q nth5 rfl rfl ?_; simp only [Act.put, List.setIfInBounds_toArray, List.set_cons_zero, List.set_cons_succ])
            first | (refine plan_quiet nth6 rfl ?_; intro KP hKP; go_big_quiet_op; go_big_quiet_on) | (refine plan_skip_q nth6 rfl rfl ?_; simp only [Act.put, List.setIfInBounds_toArray, List.set_cons_zero, List.set_cons_succ])
            first | (refine plan_quiet nth7 rfl ?_; intro KP hKP; go_big_quiet_op; go_big_quiet_on) | (refine plan_skip_q nth7 rfl rfl ?_; simp only [Act.put, List.setIfInBounds_toArray, List.set_cons_zero, List.set_cons_succ])
            first | (refine plan_quiet nth8 rfl ?_; intro KP hKP; go_big_quiet_op; go_big_quiet_on) | (refine plan_skip_q nth8 rfl rfl ?_; simp only [Act.put, List.setIfInBounds_toArray, List.set_cons_zero, List.set_cons_succ])
            first | (refine plan_quiet nth9 rfl ?_; intro KP hKP; go_big_quiet_op; go_big_quiet_on) | (refine plan_skip_q nth9 rfl rfl ?_; simp only [Act.put, List.setIfInBounds_toArray, List.set_cons_zero, List.set_cons_succ])
            first | (refine plan_quiet nth10 rfl ?_; intro KP hKP; go_big_quiet_op; go_big_quiet_on) | (refine plan_skip_q nth10 rfl rfl ?_; simp only [Act.put, List.setIfInBounds_toArray, List.set_cons_zero, List.set_cons_succ])
            first | (refine plan_quiet nth11 rfl ?_; intro KP hKP; go_big_quiet_op; go_big_quiet_on) | (refine plan_skip_q nth11 rfl rfl ?_; simp only [Act.put, List.setIfInBounds_toArray, List.set_cons_zero, List.set_cons_succ])
            first | (refine plan_quiet nth12 rfl ?_; intro KP hKP; go_big_quiet_op; go_big_quiet_on) | (refine plan_skip_q nth12 rfl rfl ?_; simp only [Act.put, List.setIfInBounds_toArray, List.set_cons_zero, List.set_cons_succ])
            first | (refine plan_quiet nth13 rfl ?_; intro KP hKP; go_big_quiet_op; go_big_quiet_on) | (refine plan_skip_q nth13 rfl rfl ?_; simp only [Act.put, List.setIfInBounds_toArray, List.set_cons_zero, List.set_cons_succ])
            first | (refine plan_quiet nth14 rfl ?_; intro KP hKP; go_big_quiet_op; go_big_quiet_on) | (refine plan_skip_q nth14 rfl rfl ?_; simp only [Act.put, List.setIfInBounds_toArray, List.set_cons_zero, List.set_cons_succ])
            first | (refine plan_quiet nth15 rfl ?_; intro KP hKP; go_big_quiet_op; go_big_quiet_on) | (refine plan_skip_q nth15 rfl rfl ?_; simp only [Act.put, List.setIfInBounds_toArray, List.set_cons_zero, List.set_cons_succ])
            first | (refine plan_quiet nth16 rfl ?_; intro KP hKP; go_big_quiet_op; go_big_quiet_on) | (refine plan_skip_q nth16 rfl rfl ?_; simp only [Act.put, List.setIfInBounds_toArray, List.set_cons_zero, List.set_cons_succ])
            first | (refine plan_quiet nth17 rfl ?_; intro KP hKP; go_big_quiet_op; go_big_quiet_on) | (refine plan_skip_q nth17 rfl rfl ?_; simp only [Act.put, List.setIfInBounds_toArray, List.set_cons_zero, List.set_cons_succ])
            first | (refine plan_quiet nth18 rfl ?_; intro KP hKP; go_big_quiet_op; go_big_quiet_on) | (refine plan_skip_q nth18 rfl rfl ?_; simp only [Act.put, List.setIfInBounds_toArray, List.set_cons_zero, List.set_cons_succ])
            first | (refine plan_quiet nth19 rfl ?_; intro KP hKP; go_big_quiet_op; go_big_quiet_on) | (refine plan_skip_q nth19 rfl rfl ?_; simp only [Act.put, List.setIfInBounds_toArray, List.set_cons_zero, List.set_cons_succ])
            refine plan_nil ?_
            go_wp2_with fail
            go_ret
            exact .mk (by rw [X2.out]; rfl) bb
          · have Z := Lib.hid (Y (by rw [e, hl]; rfl))
            clear Y N e
            go_wp2_with fail
            refine wp_region_plan2 [(0, true), (1, true), (2, true), (3, false), (4, true), (5, true), (6, true), (7, true), (8, true), (9, true), (10, true), (11, true), (12, true), (13, true), (14, true), (15, true), (16, true), (17, true), (18, true), (19, true)] (C := LaterC _) (by kernel_rfl) (by kernel_rfl) (by kernel_rfl) rfl (fun _ _ d _ _ h => by cases d <;> exact h) (LaterC.mk ((Below.refl _ _).drew)) ?_
            first | (refine plan_quiet nth0 rfl ?_; intro KP hKP; go_big_quiet_op; go_big_quiet_on) | (refine plan_skip_q nth0 rfl rfl ?_; simp only [Act.put, List.setIfInBounds_toArray, List.set_cons_zero, List.set_cons_succ])
            first | (refine plan_quiet nth1 rfl ?_; intro KP hKP; go_big_quiet_op; go_big_quiet_on) | (refine plan_skip_q nth1 rfl rfl ?_; simp only [Act.put, List.setIfInBounds_toArray, List.set_cons_zero, List.set_cons_succ])
            first | (refine plan_quiet nth2 rfl ?_; intro KP hKP; go_big_quiet_op; go_big_quiet_on) | (refine plan_skip_q nth2 rfl rfl ?_; simp only [Act.put, List.setIfInBounds_toArray, List.set_cons_zero, List.set_cons_succ])
            first | (refine plan_loud nth3 rfl ?_; intro KP hKP; go_wp2_with (first | (go_at_call 88; first | ((with_reducible refine (Calls.later (CV.out _ (q2.out.bel bb))).mono ?_); rintro e w' ⟨rfl, xl, rfl⟩; have hsz := xl.bel.size; (try simp only [World.size_alloc, World.size_setCell, World.size_drew] at hsz); (try have hz0 : w.heap.size < xl.w.heap.size := (by omega)); (try have hz1 : w.heap.size + 1 < xl.w.heap.size := (by omega)); (try have hz2 : w.heap.size + 1 + 1 < xl.w.heap.size := (by omega))) | ((with_reducible refine (CV.out _ (q2.out.bel bb)).mono ?_); rintro e w' ⟨rfl, xl, rfl⟩; have hsz := xl.bel.size; (try simp only [World.size_alloc, World.size_setCell, World.size_drew] at hsz); (try have hz0 : w.heap.size < xl.w.heap.size := (by omega)); (try have hz1 : w.heap.size + 1 < xl.w.heap.size := (by omega)); (try have hz2 : w.heap.size + 1 + 1 < xl.w.heap.size := (by omega))))); refine hKP _ _ (LaterC.mk bb) ?_; clear hKP KP) | (refine plan_skip nth3 rfl rfl (LaterC.mk bb) ?_; simp only [Act.put, List.setIfInBounds_toArray, List.set_cons_zero, List.set_cons_succ])
            first | (refine plan_quiet nth4 rfl ?_; intro KP hKP; go_big_quiet_op; go_big_quiet_on) | (refine plan_skip_q nth4 rfl rfl ?_; simp only [Act.put, List.setIfInBounds_toArray, List.set_cons_zero, List.set_cons_succ])
            first | (refine plan_quiet nth5 rfl ?_; intro KP hKP; go_big_quiet_op; go_big_quiet_on) | (refine plan_skip_q nth5 rfl rfl ?_; simp only [Act.put, List.setIfInBounds_toArray, List.set_cons_zero, List.set_cons_succ])
            first | (refine plan_quiet nth6 rfl ?_; intro KP hKP; go_big_quiet_op; go_big_quiet_on) | (refine plan_skip_q nth6 rfl rfl ?_; simp only [Act.put, List.setIfInBounds_toArray, List.set_cons_zero, List.set_cons_succ])
            first | (refine plan_quiet nth7 rfl ?_; intro KP hKP; go_big_quiet_op; go_big_quiet_on) | (refine plan_skip_q nth7 rfl rfl ?_; simp only [Act.put, List.setIfInBounds_toArray, List.set_cons_zero, List.set_cons_succ])
            first | (refine plan_quiet nth8 rfl ?_; intro KP hKP; go_big_quiet_op; go_big_quiet_on) | (refine plan_skip_q nth8 rfl rfl ?_; simp only [Act.put, List.setIfInBounds_toArray, List.set_cons_zero, List.set_cons_succ])
            first | (refine plan_quiet nth9 rfl ?_; intro KP hKP; go_big_quiet_op; go_big_quiet_on) | (refine plan_skip_q nth9 rfl rfl ?_; simp only [Act.put, List.setIfInBounds_toArray, List.set_cons_zero, List.set_cons_succ])
            first | (refine plan_quiet nth10 rfl ?_; intro KP hKP; go_big_quiet_op; go_big_quiet_on) | (refine plan_skip_q nth10 rfl rfl ?_; simp only [Act.put, List.setIfInBounds_toArray, List.set_cons_zero, List.set_cons_succ])
            first | (refine plan_quiet nth11 rfl ?_; intro KP hKP; go_big_quiet_op; go_big_quiet_on) | (refine plan_skip_q nth11 rfl rfl ?_; simp only [Act.put, List.setIfInBounds_toArray, List.set_cons_zero, List.set_cons_succ])
            first | (refine plan_quiet nth12 rfl ?_; intro KP hKP; go_big_quiet_op; go_big_quiet_on) | (refine plan_skip_q nth12 rfl rfl ?_; simp only [Act.put, List.setIfInBounds_toArray, List.set_cons_zero, List.set_cons_succ])
            first | (refine plan_quiet nth13 rfl ?_; intro KP hKP; go_big_quiet_op; go_big_quiet_on) | (refine plan_skip_q nth13 rfl rfl ?_; simp only [Act.put, List.setIfInBounds_toArray, List.set_cons_zero, List.set_cons_succ])
            first | (refine plan_quiet nth14 rfl ?_; intro KP hKP; go_big_quiet_op; go_big_quiet_on) | (refine plan_skip_q nth14 rfl rfl ?_; simp only [Act.put, List.setIfInBounds_toArray, List.set_cons_zero, List.set_cons_succ])
            first | (refine plan_quiet nth15 rfl ?_; intro KP hKP; go_big_quiet_op; go_big_quiet_on) | (refine plan_skip_q nth15 rfl rfl ?_; simp only [Act.put, List.setIfInBounds_toArray, List.set_cons_zero, List.set_cons_succ])
            first | (refine plan_quiet nth16 rfl ?_; intro KP hKP; go_big_quiet_op; go_big_quiet_on) | (refine plan_skip_q nth16 rfl rfl ?_; simp only [Act.put, List.setIfInBounds_toArray, List.set_cons_zero, List.set_cons_succ])
            first | (refine plan_quiet nth17 rfl ?_; intro KP hKP; go_big_quiet_op; go_big_quiet_on) | (refine plan_skip_q nth17 rfl rfl ?_; simp only [Act.put, List.setIfInBounds_toArray, List.set_cons_zero, List.set_cons_succ])
            first | (refine plan_quiet nth18 rfl ?_; intro KP hKP; go_big_quiet_op; go_big_quiet_on) | (refine plan_skip_q nth18 rfl rfl ?_; simp only [Act.put, List.setIfInBounds_toArray, List.set_cons_zero, List.set_cons_succ])
            first | (refine plan_quiet nth19 rfl ?_; intro KP hKP; go_big_quiet_op; go_big_quiet_on) | (refine plan_skip_q nth19 rfl rfl ?_; simp only [Act.put, List.setIfInBounds_toArray, List.set_cons_zero, List.set_cons_succ])
            refine plan_nil ?_
            go_wp2_with fail
            go_roundw
            case rel => exact ⟨j + 1 + 1, by omega, by go_num, Z.out, LaterC.mk bb⟩
            case measure => first | (simp [intOf]; done) | (simp [intOf]; omega) | omega
    · obtain rfl : k = V.length := by omega
      have X1 := Lib.hid (show B = (MB && inB V.length 1 4) by rw [X.out, XY.out hgood.out]; simp)
      cases hi : inB V.length 1 4
      · have X2 := Lib.hid (show B = false by rw [X1.out, hi]; simp)
        go_wp2_with fail
        with_reducible refine (lengthV_any _ _ _ _).mono ?_
        rintro e w' ⟨rfl, y2, rfl⟩
        have hsy2 := y2.bel.size
        (try simp only [World.size_alloc, World.size_setCell, World.size_drew] at hsy2)
        go_wp2_with fail
        with_reducible refine (within_b _ hi).mono ?_
        rintro e w' ⟨rfl, y3, rfl⟩
        have hsy3 := y3.bel.size
        (try simp only [World.size_alloc, World.size_setCell, World.size_drew] at hsy3)
        go_wp2_with fail
        go_ret
        exact .mk (by rw [X2.out]; rfl) bb
      · have X2 := Lib.hid (show B = MB by rw [X1.out, hi]; simp)
        go_wp2_with fail
        with_reducible refine (lengthV_any _ _ _ _).mono ?_
        rintro e w' ⟨rfl, y2, rfl⟩
        have hsy2 := y2.bel.size
        (try simp only [World.size_alloc, World.size_setCell, World.size_drew] at hsy2)
        go_wp2_with fail
        with_reducible refine (within_b _ hi).mono ?_
        rintro e w' ⟨rfl, y3, rfl⟩
        have hsy3 := y3.bel.size
        (try simp only [World.size_alloc, World.size_setCell, World.size_drew] at hsy3)
        go_wp2_with fail
        with_reducible refine (CM.out _ (hr.out.bel bb)).mono ?_
        rintro e w' ⟨rfl, y4, rfl⟩
        have hsy4 := y4.bel.size
        (try simp only [World.size_alloc, World.size_setCell, World.size_drew] at hsy4)
        go_wp2_with fail
        go_ret
        exact .mk (by rw [X2.out]; first | rfl | simp) bb
end Go.Proofs.YtklcaphkfdlipaaGreatDoor

/- Are they views over a map: the reference's way. -/
set_option linter.unusedSimpArgs false
set_option linter.unusedVariables false
namespace Go.Proofs.YtklcaphkfdlipaaGreatDoor
open Go.RowKit
set_option maxRecDepth 4000 in
set_option maxHeartbeats 8000000 in
theorem sAre_any (V : List Vw) (n : Nat) (b : Option Addr) (m d : Nat) (w : World) (hnn : n ≤ 1048576) (hn' : V.length = m) (hm' : m ≤ 1048576) (ok' : ∀ v ∈ V, VwOk v) (hr' : ViewsR w b V) :
    Calls Tryz.prog 104 #[.int .i64 n, .slice b m d] w (Ret w (.bool (vwsB V n && inB V.length 1 4))) := by
  subst hn'
  have XN := Lib.hid (fun (i : Nat) (h : i < V.length) hf => vwsB_no (n := n) h hf)
  have XY := Lib.hid (fun h => vwsB_yes (V := V) (n := n) h)
  generalize vwsB V n = VB at *
  replace hr' := Lib.hid hr'
  replace ok' := Lib.hid ok'
  go_enter Tryz.func104, Tryz.ntmps104
  go_wp2_with fail
  go_loopw [5] (fun t5 wr => ∃ k : Nat, k ≤ V.length ∧ t5 = .int .i64 k ∧ (∀ i, i < k → vwP V n i = true) ∧ ∃ z : Later w, wr = z.w) (fun t5 _ => V.length - (intOf t5).toNat)
  case atStart => exact ⟨0, Nat.zero_le _, rfl, fun i h => absurd h (by omega), ⟨_, Below.refl _ _⟩, rfl⟩
  case round =>
    obtain ⟨k, hk, rfl, hgood, z, rfl⟩ := hrel
    have hzz := z.bel.size
    replace hgood := Lib.hid hgood
    by_cases hlt : k < V.length
    · have hk1 : (k : Int) < (V.length : Int) := by omega
      obtain ⟨b1, o1, ai, ci, rfl, hb, q0, q1, q2, -, -⟩ := hr'.out.at_ hlt
      obtain ⟨v1, v2, v3⟩ := ok'.out _ (List.getElem_mem hlt)
      have CW := fun w => sIsWord_any V[k].holder w v1
      have CO := Lib.hid (fun (s : ByteArray) (hs : s ∈ V[k].own) (w : World) => sIsWord_any s w (v3 s hs))
      have e := vwP_at (n := n) hlt
      have eV : isVB V[k] n = (wordB V[k].holder && decide (V[k].own.length = n) && V[k].own.all ownB) := rfl
      rw [eV] at e
      have Y := Lib.hid (fun (h : vwP V n k = true) => (show ∀ i, i < k + 1 → vwP V n i = true from fun i hi => by
        rcases Nat.lt_or_ge i k with h1 | h1
        · exact hgood.out i h1
        · obtain rfl : i = k := by omega
          exact h))
      have N := Lib.hid (fun (h : vwP V n k = false) => XN.out k hlt h)
      generalize vwP V n k = P at *
      replace q2 := Lib.hid q2
      have hbz : b1 < z.w.heap.size := by omega
      clear eV v3 v1 XN
      cases hW : wordB V[k].holder
      · rw [hW] at e CW
        replace CW := Lib.hid CW
        have X2 := Lib.hid (N.out (by rw [e]; rfl))
        clear Y N e hW
        go_wp2_with fail
        refine wp_region_plan2 [(0, true), (1, true), (2, false), (3, true), (4, true), (5, true), (6, true), (7, true), (8, true), (9, true), (10, true), (11, true), (12, true), (13, true), (14, true), (15, true), (16, true), (17, true), (18, true), (19, true), (20, true), (21, true), (22, true), (23, true), (24, true), (25, true)] (C := LaterC _) (by kernel_rfl) (by kernel_rfl) (by kernel_rfl) rfl (fun _ _ d _ _ h => by cases d <;> exact h) (LaterC.mk ((Below.refl _ _).drew)) ?_
        first | (refine plan_quiet nth0 rfl ?_; intro KP hKP; go_big_quiet_op; go_big_quiet_on) | (refine plan_skip_q nth0 rfl rfl ?_; simp only [Act.put, List.setIfInBounds_toArray, List.set_cons_zero, List.set_cons_succ])
        first | (refine plan_quiet nth1 rfl ?_; intro KP hKP; go_big_quiet_op; go_big_quiet_on) | (refine plan_skip_q nth1 rfl rfl ?_; simp only [Act.put, List.setIfInBounds_toArray, List.set_cons_zero, List.set_cons_succ])
        first | (refine plan_loud nth2 rfl ?_; intro KP hKP; go_wp2_with (first | (go_at_call 140; first | ((with_reducible refine (Calls.later (CW.out _)).mono ?_); rintro e w' ⟨rfl, xl, rfl⟩; have hsz := xl.bel.size; (try simp only [World.size_alloc, World.size_setCell, World.size_drew] at hsz); (try have hz0 : w.heap.size < xl.w.heap.size := (by omega)); (try have hz1 : w.heap.size + 1 < xl.w.heap.size := (by omega)); (try have hz2 : w.heap.size + 1 + 1 < xl.w.heap.size := (by omega))) | ((with_reducible refine (CW.out _).mono ?_); rintro e w' ⟨rfl, xl, rfl⟩; have hsz := xl.bel.size; (try simp only [World.size_alloc, World.size_setCell, World.size_drew] at hsz); (try have hz0 : w.heap.size < xl.w.heap.size := (by omega)); (try have hz1 : w.heap.size + 1 < xl.w.heap.size := (by omega)); (try have hz2 : w.heap.size + 1 + 1 < xl.w.heap.size := (by omega))))); refine hKP _ _ (LaterC.mk bb) ?_; clear hKP KP) | (refine plan_skip nth2 rfl rfl (LaterC.mk bb) ?_; simp only [Act.put, List.setIfInBounds_toArray, List.set_cons_zero, List.set_cons_succ])
        first | (refine plan_quiet nth3 rfl ?_; intro KP hKP; go_big_quiet_op; go_big_quiet_on) | (refine plan_skip_q nth3 rfl rfl ?_; simp only [Act.put, List.setIfInBounds_toArray, List.set_cons_zero, List.set_cons_succ])
        first | (refine plan_quiet nth4 rfl ?_; intro KP hKP; go_big_quiet_op; go_big_quiet_on) | (refine plan_skip_q nth4 rfl rfl ?_; simp only [Act.put, List.setIfInBounds_toArray, List.set_cons_zero, List.set_cons_succ])
        first | (refine plan_quiet nth5 rfl ?_; intro KP hKP; go_big_quiet_op; go_big_quiet_on) | (refine plan_skip_q nth5 rfl rfl ?_; simp only [Act.put, List.setIfInBounds_toArray, List.set_cons_zero, List.set_cons_succ])
        first | (refine plan_quiet nth6 rfl ?_; intro KP hKP; go_big_quiet_op; go_big_quiet_on) | (refine plan_skip_q nth6 rfl rfl ?_; simp only [Act.put, List.setIfInBounds_toArray, List.set_cons_zero, List.set_cons_succ])
        first | (refine plan_quiet nth7 rfl ?_; intro KP hKP; go_big_quiet_op; go_big_quiet_on) | (refine plan_skip_q nth7 rfl rfl ?_; simp only [Act.put, List.setIfInBounds_toArray, List.set_cons_zero, List.set_cons_succ])
        first | (refine plan_quiet nth8 rfl ?_; intro KP hKP; go_big_quiet_op; go_big_quiet_on) | (refine plan_skip_q nth8 rfl rfl ?_; simp only [Act.put, List.setIfInBounds_toArray, List.set_cons_zero, List.set_cons_succ])
        first | (refine plan_quiet nth9 rfl ?_; intro KP hKP; go_big_quiet_op; go_big_quiet_on) | (refine plan_skip_q nth9 rfl rfl ?_; simp only [Act.put, List.setIfInBounds_toArray, List.set_cons_zero, List.set_cons_succ])
        first | (refine plan_quiet nth10 rfl ?_; intro KP hKP; go_big_quiet_op; go_big_quiet_on) | (refine plan_skip_q nth10 rfl rfl ?_; simp only [Act.put, List.setIfInBounds_toArray, List.set_cons_zero, List.set_cons_succ])
        first | (refine plan_quiet nth11 rfl ?_; intro KP hKP; go_big_quiet_op; go_big_quiet_on) | (refine plan_skip_q nth11 rfl rfl ?_; simp only [Act.put, List.setIfInBounds_toArray, List.set_cons_zero, List.set_cons_succ])
        first | (refine plan_quiet nth12 rfl ?_; intro KP hKP; go_big_quiet_op; go_big_quiet_on) | (refine plan_skip_q nth12 rfl rfl ?_; simp only [Act.put, List.setIfInBounds_toArray, List.set_cons_zero, List.set_cons_succ])
        first | (refine plan_quiet nth13 rfl ?_; intro KP hKP; go_big_quiet_op; go_big_quiet_on) | (refine plan_skip_q nth13 rfl rfl ?_; simp only [Act.put, List.setIfInBounds_toArray, List.set_cons_zero, List.set_cons_succ])
        first | (refine plan_quiet nth14 rfl ?_; intro KP hKP; go_big_quiet_op; go_big_quiet_on) | (refine plan_skip_q nth14 rfl rfl ?_; simp only [Act.put, List.setIfInBounds_toArray, List.set_cons_zero, List.set_cons_succ])
        first | (refine plan_quiet nth15 rfl ?_; intro KP hKP; go_big_quiet_op; go_big_quiet_on) | (refine plan_skip_q nth15 rfl rfl ?_; simp only [Act.put, List.setIfInBounds_toArray, List.set_cons_zero, List.set_cons_succ])
        first | (refine plan_quiet nth16 rfl ?_; intro KP hKP; go_big_quiet_op; go_big_quiet_on) | (refine plan_skip_q nth16 rfl rfl ?_; simp only [Act.put, List.setIfInBounds_toArray, List.set_cons_zero, List.set_cons_succ])
        first | (refine plan_quiet nth17 rfl ?_; intro KP hKP; go_big_quiet_op; go_big_quiet_on) | (refine plan_skip_q nth17 rfl rfl ?_; simp only [Act.put, List.setIfInBounds_toArray, List.set_cons_zero, List.set_cons_succ])
        first | (refine plan_quiet nth18 rfl ?_; intro KP hKP; go_big_quiet_op; go_big_quiet_on) | (refine plan_skip_q nth18 rfl rfl ?_; simp only [Act.put, List.setIfInBounds_toArray, List.set_cons_zero, List.set_cons_succ])
        first | (refine plan_quiet nth19 rfl ?_; intro KP hKP; go_big_quiet_op; go_big_quiet_on) | (refine plan_skip_q nth19 rfl rfl ?_; simp only [Act.put, List.setIfInBounds_toArray, List.set_cons_zero, List.set_cons_succ])
        first | (refine plan_quiet nth20 rfl ?_; intro KP hKP; go_big_quiet_op; go_big_quiet_on) | (refine plan_skip_q nth20 rfl rfl ?_; simp only [Act.put, List.setIfInBounds_toArray, List.set_cons_zero, List.set_cons_succ])
        first | (refine plan_quiet nth21 rfl ?_; intro KP hKP; go_big_quiet_op; go_big_quiet_on) | (refine plan_skip_q nth21 rfl rfl ?_; simp only [Act.put, List.setIfInBounds_toArray, List.set_cons_zero, List.set_cons_succ])
        first | (refine plan_quiet nth22 rfl ?_; intro KP hKP; go_big_quiet_op; go_big_quiet_on) | (refine plan_skip_q nth22 rfl rfl ?_; simp only [Act.put, List.setIfInBounds_toArray, List.set_cons_zero, List.set_cons_succ])
        first | (refine plan_quiet nth23 rfl ?_; intro KP hKP; go_big_quiet_op; go_big_quiet_on) | (refine plan_skip_q nth23 rfl rfl ?_; simp only [Act.put, List.setIfInBounds_toArray, List.set_cons_zero, List.set_cons_succ])
        first | (refine plan_quiet nth24 rfl ?_; intro KP hKP; go_big_quiet_op; go_big_quiet_on) | (refine plan_skip_q nth24 rfl rfl ?_; simp only [Act.put, List.setIfInBounds_toArray, List.set_cons_zero, List.set_cons_succ])
        first | (refine plan_quiet nth25 rfl ?_; intro KP hKP; go_big_quiet_op; go_big_quiet_on) | (refine plan_skip_q nth25 rfl rfl ?_; simp only [Act.put, List.setIfInBounds_toArray, List.set_cons_zero, List.set_cons_succ])
        refine plan_nil ?_
        go_wp2_with fail
        go_ret
        exact .mk (by rw [X2.out]; rfl) bb
      rw [hW] at e CW
      replace CW := Lib.hid CW
      clear hW
      by_cases hl : V[k].own.length = n
      rotate_left
      · have X2 := Lib.hid (N.out (by rw [e, decide_eq_false hl]; rfl))
        have hl1 : ((V[k].own.length : Int) != (n : Int)) = true := by simp; omega
        clear Y N e
        go_wp2_with fail
        refine wp_region_plan2 [(0, true), (1, true), (2, false), (3, true), (4, true), (5, true), (6, true), (7, true), (8, true), (9, true), (10, true), (11, true), (12, true), (13, true), (14, true), (15, true), (16, true), (17, true), (18, true), (19, true), (20, true), (21, true), (22, true), (23, true), (24, true), (25, true)] (C := LaterC _) (by kernel_rfl) (by kernel_rfl) (by kernel_rfl) rfl (fun _ _ d _ _ h => by cases d <;> exact h) (LaterC.mk ((Below.refl _ _).drew)) ?_
        first | (refine plan_quiet nth0 rfl ?_; intro KP hKP; go_big_quiet_op; go_big_quiet_on) | (refine plan_skip_q nth0 rfl rfl ?_; simp only [Act.put, List.setIfInBounds_toArray, List.set_cons_zero, List.set_cons_succ])
        first | (refine plan_quiet nth1 rfl ?_; intro KP hKP; go_big_quiet_op; go_big_quiet_on) | (refine plan_skip_q nth1 rfl rfl ?_; simp only [Act.put, List.setIfInBounds_toArray, List.set_cons_zero, List.set_cons_succ])
        first | (refine plan_loud nth2 rfl ?_; intro KP hKP; go_wp2_with (first | (go_at_call 140; first | ((with_reducible refine (Calls.later (CW.out _)).mono ?_); rintro e w' ⟨rfl, xl, rfl⟩; have hsz := xl.bel.size; (try simp only [World.size_alloc, World.size_setCell, World.size_drew] at hsz); (try have hz0 : w.heap.size < xl.w.heap.size := (by omega)); (try have hz1 : w.heap.size + 1 < xl.w.heap.size := (by omega)); (try have hz2 : w.heap.size + 1 + 1 < xl.w.heap.size := (by omega))) | ((with_reducible refine (CW.out _).mono ?_); rintro e w' ⟨rfl, xl, rfl⟩; have hsz := xl.bel.size; (try simp only [World.size_alloc, World.size_setCell, World.size_drew] at hsz); (try have hz0 : w.heap.size < xl.w.heap.size := (by omega)); (try have hz1 : w.heap.size + 1 < xl.w.heap.size := (by omega)); (try have hz2 : w.heap.size + 1 + 1 < xl.w.heap.size := (by omega))))); refine hKP _ _ (LaterC.mk bb) ?_; clear hKP KP) | (refine plan_skip nth2 rfl rfl (LaterC.mk bb) ?_; simp only [Act.put, List.setIfInBounds_toArray, List.set_cons_zero, List.set_cons_succ])
        first | (refine plan_quiet nth3 rfl ?_; intro KP hKP; go_big_quiet_op; go_big_quiet_on) | (refine plan_skip_q nth3 rfl rfl ?_; simp only [Act.put, List.setIfInBounds_toArray, List.set_cons_zero, List.set_cons_succ])
        first | (refine plan_quiet nth4 rfl ?_; intro KP hKP; go_big_quiet_op; go_big_quiet_on) | (refine plan_skip_q nth4 rfl rfl ?_; simp only [Act.put, List.setIfInBounds_toArray, List.set_cons_zero, List.set_cons_succ])
        first | (refine plan_quiet nth5 rfl ?_; intro KP hKP; go_big_quiet_op; go_big_quiet_on) | (refine plan_skip_q nth5 rfl rfl ?_; simp only [Act.put, List.setIfInBounds_toArray, List.set_cons_zero, List.set_cons_succ])
        first | (refine plan_quiet nth6 rfl ?_; intro KP hKP; go_big_quiet_op; go_big_quiet_on) | (refine plan_skip_q nth6 rfl rfl ?_; simp only [Act.put, List.setIfInBounds_toArray, List.set_cons_zero, List.set_cons_succ])
        first | (refine plan_quiet nth7 rfl ?_; intro KP hKP; go_big_quiet_op; go_big_quiet_on) | (refine plan_skip_q nth7 rfl rfl ?_; simp only [Act.put, List.setIfInBounds_toArray, List.set_cons_zero, List.set_cons_succ])
        first | (refine plan_quiet nth8 rfl ?_; intro KP hKP; go_big_quiet_op; go_big_quiet_on) | (refine plan_skip_q nth8 rfl rfl ?_; simp only [Act.put, List.setIfInBounds_toArray, List.set_cons_zero, List.set_cons_succ])
        first | (refine plan_quiet nth9 rfl ?_; intro KP hKP; go_big_quiet_op; go_big_quiet_on) | (refine plan_skip_q nth9 rfl rfl ?_; simp only [Act.put, List.setIfInBounds_toArray, List.set_cons_zero, List.set_cons_succ])
        first | (refine plan_quiet nth10 rfl ?_; intro KP hKP; go_big_quiet_op; go_big_quiet_on) | (refine plan_skip_q nth10 rfl rfl ?_; simp only [Act.put, List.setIfInBounds_toArray, List.set_cons_zero, List.set_cons_succ])
        first | (refine plan_quiet nth11 rfl ?_; intro KP hKP; go_big_quiet_op; go_big_quiet_on) | (refine plan_skip_q nth11 rfl rfl ?_; simp only [Act.put, List.setIfInBounds_toArray, List.set_cons_zero, List.set_cons_succ])
        first | (refine plan_quiet nth12 rfl ?_; intro KP hKP; go_big_quiet_op; go_big_quiet_on) | (refine plan_skip_q nth12 rfl rfl ?_; simp only [Act.put, List.setIfInBounds_toArray, List.set_cons_zero, List.set_cons_succ])
        first | (refine plan_quiet nth13 rfl ?_; intro KP hKP; go_big_quiet_op; go_big_quiet_on) | (refine plan_skip_q nth13 rfl rfl ?_; simp only [Act.put, List.setIfInBounds_toArray, List.set_cons_zero, List.set_cons_succ])
        first | (refine plan_quiet nth14 rfl ?_; intro KP hKP; go_big_quiet_op; go_big_quiet_on) | (refine plan_skip_q nth14 rfl rfl ?_; simp only [Act.put, List.setIfInBounds_toArray, List.set_cons_zero, List.set_cons_succ])
        first | (refine plan_quiet nth15 rfl ?_; intro KP hKP; go_big_quiet_op; go_big_quiet_on) | (refine plan_skip_q nth15 rfl rfl ?_; simp only [Act.put, List.setIfInBounds_toArray, List.set_cons_zero, List.set_cons_succ])
        first | (refine plan_quiet nth16 rfl ?_; intro KP hKP; go_big_quiet_op; go_big_quiet_on) | (refine plan_skip_q nth16 rfl rfl ?_; simp only [Act.put, List.setIfInBounds_toArray, List.set_cons_zero, List.set_cons_succ])
        first | (refine plan_quiet nth17 rfl ?_; intro KP hKP; go_big_quiet_op; go_big_quiet_on) | (refine plan_skip_q nth17 rfl rfl ?_; simp only [Act.put, List.setIfInBounds_toArray, List.set_cons_zero, List.set_cons_succ])
        first | (refine plan_quiet nth18 rfl ?_; intro KP hKP; go_big_quiet_op; go_big_quiet_on) | (refine plan_skip_q nth18 rfl rfl ?_; simp only [Act.put, List.setIfInBounds_toArray, List.set_cons_zero, List.set_cons_succ])
        first | (refine plan_quiet nth19 rfl ?_; intro KP hKP; go_big_quiet_op; go_big_quiet_on) | (refine plan_skip_q nth19 rfl rfl ?_; simp only [Act.put, List.setIfInBounds_toArray, List.set_cons_zero, List.set_cons_succ])
        first | (refine plan_quiet nth20 rfl ?_; intro KP hKP; go_big_quiet_op; go_big_quiet_on) | (refine plan_skip_q nth20 rfl rfl ?_; simp only [Act.put, List.setIfInBounds_toArray, List.set_cons_zero, List.set_cons_succ])
        first | (refine plan_quiet nth21 rfl ?_; intro KP hKP; go_big_quiet_op; go_big_quiet_on) | (refine plan_skip_q nth21 rfl rfl ?_; simp only [Act.put, List.setIfInBounds_toArray, List.set_cons_zero, List.set_cons_succ])
        first | (refine plan_quiet nth22 rfl ?_; intro KP hKP; go_big_quiet_op; go_big_quiet_on) | (refine plan_skip_q nth22 rfl rfl ?_; simp only [Act.put, List.setIfInBounds_toArray, List.set_cons_zero, List.set_cons_succ])
        first | (refine plan_quiet nth23 rfl ?_; intro KP hKP; go_big_quiet_op; go_big_quiet_on) | (refine plan_skip_q nth23 rfl rfl ?_; simp only [Act.put, List.setIfInBounds_toArray, List.set_cons_zero, List.set_cons_succ])
        first | (refine plan_quiet nth24 rfl ?_; intro KP hKP; go_big_quiet_op; go_big_quiet_on) | (refine plan_skip_q nth24 rfl rfl ?_; simp only [Act.put, List.setIfInBounds_toArray, List.set_cons_zero, List.set_cons_succ])
        first | (refine plan_quiet nth25 rfl ?_; intro KP hKP; go_big_quiet_op; go_big_quiet_on) | (refine plan_skip_q nth25 rfl rfl ?_; simp only [Act.put, List.setIfInBounds_toArray, List.set_cons_zero, List.set_cons_succ])
        refine plan_nil ?_
        go_wp2_with fail
        go_ret
        exact .mk (by rw [X2.out]; rfl) bb
      rw [decide_eq_true hl] at e
      have hl1 : ((V[k].own.length : Int) != (n : Int)) = false := by simp [hl]
      replace hl := Lib.hid hl
      have main : ordV V k = true → P = V[k].own.all ownB := fun h => by rw [e, h]; simp
      replace main := Lib.hid main
      rcases Nat.eq_zero_or_pos k with hk0 | hk0
      · have ho := main.out (by subst hk0; rfl)
        replace ho := Lib.hid ho
        have hgt : ¬ (0 < k) := by omega
        clear e hk0 main
        go_wp2_with fail
        refine wp_region_plan2 [(0, true), (1, true), (2, false), (3, true), (4, true), (5, true), (6, true), (7, true), (8, true), (9, true), (10, true), (11, true), (12, true), (13, true), (14, true), (15, true), (16, true), (17, true), (18, true), (19, true), (20, true), (21, true), (22, true), (23, true), (24, true), (25, true)] (C := LaterC _) (by kernel_rfl) (by kernel_rfl) (by kernel_rfl) rfl (fun _ _ d _ _ h => by cases d <;> exact h) (LaterC.mk ((Below.refl _ _).drew)) ?_
        first | (refine plan_quiet nth0 rfl ?_; intro KP hKP; go_big_quiet_op; go_big_quiet_on) | (refine plan_skip_q nth0 rfl rfl ?_; simp only [Act.put, List.setIfInBounds_toArray, List.set_cons_zero, List.set_cons_succ])
        first | (refine plan_quiet nth1 rfl ?_; intro KP hKP; go_big_quiet_op; go_big_quiet_on) | (refine plan_skip_q nth1 rfl rfl ?_; simp only [Act.put, List.setIfInBounds_toArray, List.set_cons_zero, List.set_cons_succ])
        first | (refine plan_loud nth2 rfl ?_; intro KP hKP; go_wp2_with (first | (go_at_call 140; first | ((with_reducible refine (Calls.later (CW.out _)).mono ?_); rintro e w' ⟨rfl, xl, rfl⟩; have hsz := xl.bel.size; (try simp only [World.size_alloc, World.size_setCell, World.size_drew] at hsz); (try have hz0 : w.heap.size < xl.w.heap.size := (by omega)); (try have hz1 : w.heap.size + 1 < xl.w.heap.size := (by omega)); (try have hz2 : w.heap.size + 1 + 1 < xl.w.heap.size := (by omega))) | ((with_reducible refine (CW.out _).mono ?_); rintro e w' ⟨rfl, xl, rfl⟩; have hsz := xl.bel.size; (try simp only [World.size_alloc, World.size_setCell, World.size_drew] at hsz); (try have hz0 : w.heap.size < xl.w.heap.size := (by omega)); (try have hz1 : w.heap.size + 1 < xl.w.heap.size := (by omega)); (try have hz2 : w.heap.size + 1 + 1 < xl.w.heap.size := (by omega))))); refine hKP _ _ (LaterC.mk bb) ?_; clear hKP KP) | (refine plan_skip nth2 rfl rfl (LaterC.mk bb) ?_; simp only [Act.put, List.setIfInBounds_toArray, List.set_cons_zero, List.set_cons_succ])
        first | (refine plan_quiet nth3 rfl ?_; intro KP hKP; go_big_quiet_op; go_big_quiet_on) | (refine plan_skip_q nth3 rfl rfl ?_; simp only [Act.put, List.setIfInBounds_toArray, List.set_cons_zero, List.set_cons_succ])
        first | (refine plan_quiet nth4 rfl ?_; intro KP hKP; go_big_quiet_op; go_big_quiet_on) | (refine plan_skip_q nth4 rfl rfl ?_; simp only [Act.put, List.setIfInBounds_toArray, List.set_cons_zero, List.set_cons_succ])
        first | (refine plan_quiet nth5 rfl ?_; intro KP hKP; go_big_quiet_op; go_big_quiet_on) | (refine plan_skip_q nth5 rfl rfl ?_; simp only [Act.put, List.setIfInBounds_toArray, List.set_cons_zero, List.set_cons_succ])
        first | (refine plan_quiet nth6 rfl ?_; intro KP hKP; go_big_quiet_op; go_big_quiet_on) | (refine plan_skip_q nth6 rfl rfl ?_; simp only [Act.put, List.setIfInBounds_toArray, List.set_cons_zero, List.set_cons_succ])
        first | (refine plan_quiet nth7 rfl ?_; intro KP hKP; go_big_quiet_op; go_big_quiet_on) | (refine plan_skip_q nth7 rfl rfl ?_; simp only [Act.put, List.setIfInBounds_toArray, List.set_cons_zero, List.set_cons_succ])
        first | (refine plan_quiet nth8 rfl ?_; intro KP hKP; go_big_quiet_op; go_big_quiet_on) | (refine plan_skip_q nth8 rfl rfl ?_; simp only [Act.put, List.setIfInBounds_toArray, List.set_cons_zero, List.set_cons_succ])
        first | (refine plan_quiet nth9 rfl ?_; intro KP hKP; go_big_quiet_op; go_big_quiet_on) | (refine plan_skip_q nth9 rfl rfl ?_; simp only [Act.put, List.setIfInBounds_toArray, List.set_cons_zero, List.set_cons_succ])
        first | (refine plan_quiet nth10 rfl ?_; intro KP hKP; go_big_quiet_op; go_big_quiet_on) | (refine plan_skip_q nth10 rfl rfl ?_; simp only [Act.put, List.setIfInBounds_toArray, List.set_cons_zero, List.set_cons_succ])
        first | (refine plan_quiet nth11 rfl ?_; intro KP hKP; go_big_quiet_op; go_big_quiet_on) | (refine plan_skip_q nth11 rfl rfl ?_; simp only [Act.put, List.setIfInBounds_toArray, List.set_cons_zero, List.set_cons_succ])
        first | (refine plan_quiet nth12 rfl ?_; intro KP hKP; go_big_quiet_op; go_big_quiet_on) | (refine plan_skip_q nth12 rfl rfl ?_; simp only [Act.put, List.setIfInBounds_toArray, List.set_cons_zero, List.set_cons_succ])
        first | (refine plan_quiet nth13 rfl ?_; intro KP hKP; go_big_quiet_op; go_big_quiet_on) | (refine plan_skip_q nth13 rfl rfl ?_; simp only [Act.put, List.setIfInBounds_toArray, List.set_cons_zero, List.set_cons_succ])
        first | (refine plan_quiet nth14 rfl ?_; intro KP hKP; go_big_quiet_op; go_big_quiet_on) | (refine plan_skip_q nth14 rfl rfl ?_; simp only [Act.put, List.setIfInBounds_toArray, List.set_cons_zero, List.set_cons_succ])
        first | (refine plan_quiet nth15 rfl ?_; intro KP hKP; go_big_quiet_op; go_big_quiet_on) | (refine plan_skip_q nth15 rfl rfl ?_; simp only [Act.put, List.setIfInBounds_toArray, List.set_cons_zero, List.set_cons_succ])
        first | (refine plan_quiet nth16 rfl ?_; intro KP hKP; go_big_quiet_op; go_big_quiet_on) | (refine plan_skip_q nth16 rfl rfl ?_; simp only [Act.put, List.setIfInBounds_toArray, List.set_cons_zero, List.set_cons_succ])
        first | (refine plan_quiet nth17 rfl ?_; intro KP hKP; go_big_quiet_op; go_big_quiet_on) | (refine plan_skip_q nth17 rfl rfl ?_; simp only [Act.put, List.setIfInBounds_toArray, List.set_cons_zero, List.set_cons_succ])
        first | (refine plan_quiet nth18 rfl ?_; intro KP hKP; go_big_quiet_op; go_big_quiet_on) | (refine plan_skip_q nth18 rfl rfl ?_; simp only [Act.put, List.setIfInBounds_toArray, List.set_cons_zero, List.set_cons_succ])
        first | (refine plan_quiet nth19 rfl ?_; intro KP hKP; go_big_quiet_op; go_big_quiet_on) | (refine plan_skip_q nth19 rfl rfl ?_; simp only [Act.put, List.setIfInBounds_toArray, List.set_cons_zero, List.set_cons_succ])
        first | (refine plan_quiet nth20 rfl ?_; intro KP hKP; go_big_quiet_op; go_big_quiet_on) | (refine plan_skip_q nth20 rfl rfl ?_; simp only [Act.put, List.setIfInBounds_toArray, List.set_cons_zero, List.set_cons_succ])
        first | (refine plan_quiet nth21 rfl ?_; intro KP hKP; go_big_quiet_op; go_big_quiet_on) | (refine plan_skip_q nth21 rfl rfl ?_; simp only [Act.put, List.setIfInBounds_toArray, List.set_cons_zero, List.set_cons_succ])
        first | (refine plan_quiet nth22 rfl ?_; intro KP hKP; go_big_quiet_op; go_big_quiet_on) | (refine plan_skip_q nth22 rfl rfl ?_; simp only [Act.put, List.setIfInBounds_toArray, List.set_cons_zero, List.set_cons_succ])
        first | (refine plan_quiet nth23 rfl ?_; intro KP hKP; go_big_quiet_op; go_big_quiet_on) | (refine plan_skip_q nth23 rfl rfl ?_; simp only [Act.put, List.setIfInBounds_toArray, List.set_cons_zero, List.set_cons_succ])
        first | (refine plan_quiet nth24 rfl ?_; intro KP hKP; go_big_quiet_op; go_big_quiet_on) | (refine plan_skip_q nth24 rfl rfl ?_; simp only [Act.put, List.setIfInBounds_toArray, List.set_cons_zero, List.set_cons_succ])
        first | (refine plan_quiet nth25 rfl ?_; intro KP hKP; go_big_quiet_op; go_big_quiet_on) | (refine plan_skip_q nth25 rfl rfl ?_; simp only [Act.put, List.setIfInBounds_toArray, List.set_cons_zero, List.set_cons_succ])
        refine plan_nil ?_
        go_wp2_with fail
        go_loopw [7] (fun t7 wr => ∃ j7 : Nat, j7 ≤ n ∧ t7 = .int .i64 j7 ∧ (V[k].own.take j7).all ownB = true ∧ ∃ z2 : Later (z.w.alloc (.cells #[.string V[k].holder, .slice ai V[k].own.length ci] 64)), wr = z2.w) (fun t7 _ => n - (intOf t7).toNat)
        case atStart => exact ⟨0, Nat.zero_le _, rfl, rfl, LaterC.mk bb⟩
        case round =>
          obtain ⟨j7, hj7, rfl, hall, z2, rfl⟩ := hrel
          have hz2 := z2.bel.size
          simp only [World.size_alloc] at hz2
          have h4 : z.w.heap.size < z2.w.heap.size := by omega
          replace hall := Lib.hid hall
          by_cases hlt7 : j7 < n
          · have hj8 : j7 < V[k].own.length := by have := hl.out; omega
            have hj9 : (j7 : Int) < (n : Int) := by omega
            have hj10 : (j7 : Int) < (V[k].own.length : Int) := by omega
            obtain ⟨b7, o7, rfl, hb7, c7⟩ := q2.out.str hj8
            have hb8 : b7 < z2.w.heap.size := by omega
            have hb9 : b7 < z.w.heap.size := by omega
            have CO7 := fun w => CO.out _ (List.getElem_mem hj8) w
            have S7 := fun (h : ownB (V[k].own[j7]'hj8) = true) => all_take1 (p := ownB) hj8 hall.out h
            have N7 := fun (h : ownB (V[k].own[j7]'hj8) = false) => all_no (p := ownB) hj8 h
            have e7 : ownB (V[k].own[j7]'hj8) = ((V[k].own[j7]'hj8).toList.isEmpty || wordB (V[k].own[j7]'hj8)) := rfl
            generalize V[k].own[j7]'hj8 = s at *
            generalize ownB s = os at *
            generalize wordB s = ws at *
            replace CO7 := Lib.hid CO7
            replace S7 := Lib.hid S7
            replace N7 := Lib.hid N7
            cases hse : s.toList.isEmpty
            · cases ws
              · have X2 := Lib.hid (N.out (by rw [ho.out]; exact N7.out (by rw [e7, hse]; rfl)))
                clear e7 S7 N7 Y N
                go_wp2_with fail
                with_reducible refine (CO7.out _).mono ?_
                rintro e w' ⟨rfl, y8, rfl⟩
                have hsy8 := y8.bel.size
                (try simp only [World.size_alloc, World.size_setCell, World.size_drew] at hsy8)
                go_wp2_with fail
                go_ret
                exact .mk (by rw [X2.out]; rfl) bb
              · have X2 := Lib.hid (S7.out (by rw [e7, hse]; rfl))
                clear e7 S7 N7
                go_wp2_with fail
                with_reducible refine (CO7.out _).mono ?_
                rintro e w' ⟨rfl, y8, rfl⟩
                have hsy8 := y8.bel.size
                (try simp only [World.size_alloc, World.size_setCell, World.size_drew] at hsy8)
                go_wp2_with fail
                go_roundw
                case rel => exact ⟨j7 + 1, by omega, by go_num, X2.out, LaterC.mk bb⟩
                case measure => first | (simp [intOf]; done) | (simp [intOf]; omega) | omega
            · have X2 := Lib.hid (S7.out (by rw [e7, hse]; rfl))
              clear e7 S7 N7
              go_wp2_with fail
              go_roundw
              case rel => exact ⟨j7 + 1, by omega, by go_num, X2.out, LaterC.mk bb⟩
              case measure => first | (simp [intOf]; done) | (simp [intOf]; omega) | omega
          · obtain rfl : j7 = n := by omega
            have hal := hall.out
            rw [List.take_of_length_le (by have := hl.out; omega)] at hal
            have X2 := Lib.hid (Y.out (by rw [ho.out]; exact hal))
            clear hal hall Y N
            go_wp2_with fail
            go_roundw
            case rel => exact ⟨k + 1, by omega, by go_num, X2.out, LaterC.mk bb⟩
            case measure => first | (simp [intOf]; done) | (simp [intOf]; omega) | omega
      · obtain ⟨j, rfl⟩ : ∃ j, k = j + 1 := ⟨k - 1, by omega⟩
        obtain ⟨b2, o2, aj, cj, he, hb2, s0, -, -, -, -⟩ := hr'.out.at_ (i := j) (by omega)
        cases he
        rw [ordV_succ hlt] at e
        have main2 := main.out
        rw [ordV_succ hlt] at main2
        have hgt : ((0 : Int) < (j : Int) + 1) := by omega
        have hjv : (j : Int) < (V.length : Int) := by omega
        replace hk0 := Lib.hid hk0
        cases hl2 : Op.bytesLess V[j].holder.toList V[j + 1].holder.toList
        · have X2 := Lib.hid (N.out (by rw [e, hl2]; simp))
          clear Y N e main main2
          go_wp2_with fail
          refine wp_region_plan2 [(0, true), (1, true), (2, false), (3, true), (4, true), (5, true), (6, true), (7, true), (8, true), (9, true), (10, true), (11, true), (12, true), (13, true), (14, true), (15, true), (16, true), (17, true), (18, true), (19, true), (20, true), (21, true), (22, true), (23, true), (24, true), (25, true)] (C := LaterC _) (by kernel_rfl) (by kernel_rfl) (by kernel_rfl) rfl (fun _ _ d _ _ h => by cases d <;> exact h) (LaterC.mk ((Below.refl _ _).drew)) ?_
          first | (refine plan_quiet nth0 rfl ?_; intro KP hKP; go_big_quiet_op; go_big_quiet_on) | (refine plan_skip_q nth0 rfl rfl ?_; simp only [Act.put, List.setIfInBounds_toArray, List.set_cons_zero, List.set_cons_succ])
          first | (refine plan_quiet nth1 rfl ?_; intro KP hKP; go_big_quiet_op; go_big_quiet_on) | (refine plan_skip_q nth1 rfl rfl ?_; simp only [Act.put, List.setIfInBounds_toArray, List.set_cons_zero, List.set_cons_succ])
          first | (refine plan_loud nth2 rfl ?_; intro KP hKP; go_wp2_with (first | (go_at_call 140; first | ((with_reducible refine (Calls.later (CW.out _)).mono ?_); rintro e w' ⟨rfl, xl, rfl⟩; have hsz := xl.bel.size; (try simp only [World.size_alloc, World.size_setCell, World.size_drew] at hsz); (try have hz0 : w.heap.size < xl.w.heap.size := (by omega)); (try have hz1 : w.heap.size + 1 < xl.w.heap.size := (by omega)); (try have hz2 : w.heap.size + 1 + 1 < xl.w.heap.size := (by omega))) | ((with_reducible refine (CW.out _).mono ?_); rintro e w' ⟨rfl, xl, rfl⟩; have hsz := xl.bel.size; (try simp only [World.size_alloc, World.size_setCell, World.size_drew] at hsz); (try have hz0 : w.heap.size < xl.w.heap.size := (by omega)); (try have hz1 : w.heap.size + 1 < xl.w.heap.size := (by omega)); (try have hz2 : w.heap.size + 1 + 1 < xl.w.heap.size := (by omega))))); refine hKP _ _ (LaterC.mk bb) ?_; clear hKP KP) | (refine plan_skip nth2 rfl rfl (LaterC.mk bb) ?_; simp only [Act.put, List.setIfInBounds_toArray, List.set_cons_zero, List.set_cons_succ])
          first | (refine plan_quiet nth3 rfl ?_; intro KP hKP; go_big_quiet_op; go_big_quiet_on) | (refine plan_skip_q nth3 rfl rfl ?_; simp only [Act.put, List.setIfInBounds_toArray, List.set_cons_zero, List.set_cons_succ])
          first | (refine plan_quiet nth4 rfl ?_; intro KP hKP; go_big_quiet_op; go_big_quiet_on) | (refine plan_skip_q nth4 rfl rfl ?_; simp only [Act.put, List.setIfInBounds_toArray, List.set_cons_zero, List.set_cons_succ])
          first | (refine plan_quiet nth5 rfl ?_; intro KP hKP; go_big_quiet_op; go_big_quiet_on) | (refine plan_skip_q nth5 rfl rfl ?_; simp only [Act.put, List.setIfInBounds_toArray, List.set_cons_zero, List.set_cons_succ])
          first | (refine plan_quiet nth6 rfl ?_; intro KP hKP; go_big_quiet_op; go_big_quiet_on) | (refine plan_skip_q nth6 rfl rfl ?_; simp only [Act.put, List.setIfInBounds_toArray, List.set_cons_zero, List.set_cons_succ])
          first | (refine plan_quiet nth7 rfl ?_; intro KP hKP; go_big_quiet_op; go_big_quiet_on) | (refine plan_skip_q nth7 rfl rfl ?_; simp only [Act.put, List.setIfInBounds_toArray, List.set_cons_zero, List.set_cons_succ])
          first | (refine plan_quiet nth8 rfl ?_; intro KP hKP; go_big_quiet_op; go_big_quiet_on) | (refine plan_skip_q nth8 rfl rfl ?_; simp only [Act.put, List.setIfInBounds_toArray, List.set_cons_zero, List.set_cons_succ])
          first | (refine plan_quiet nth9 rfl ?_; intro KP hKP; go_big_quiet_op; go_big_quiet_on) | (refine plan_skip_q nth9 rfl rfl ?_; simp only [Act.put, List.setIfInBounds_toArray, List.set_cons_zero, List.set_cons_succ])
          first | (refine plan_quiet nth10 rfl ?_; intro KP hKP; go_big_quiet_op; go_big_quiet_on) | (refine plan_skip_q nth10 rfl rfl ?_; simp only [Act.put, List.setIfInBounds_toArray, List.set_cons_zero, List.set_cons_succ])
          first | (refine plan_quiet nth11 rfl ?_; intro KP hKP; go_big_quiet_op; go_big_quiet_on) | (refine plan_skip_q nth11 rfl rfl ?_; simp only [Act.put, List.setIfInBounds_toArray, List.set_cons_zero, List.set_cons_succ])
          first | (refine plan_quiet nth12 rfl ?_; intro KP hKP; go_big_quiet_op; go_big_quiet_on) | (refine plan_skip_q nth12 rfl rfl ?_; simp only [Act.put, List.setIfInBounds_toArray, List.set_cons_zero, List.set_cons_succ])
          first | (refine plan_quiet nth13 rfl ?_; intro KP hKP; go_big_quiet_op; go_big_quiet_on) | (refine plan_skip_q nth13 rfl rfl ?_; simp only [Act.put, List.setIfInBounds_toArray, List.set_cons_zero, List.set_cons_succ])
          first | (refine plan_quiet nth14 rfl ?_; intro KP hKP; go_big_quiet_op; go_big_quiet_on) | (refine plan_skip_q nth14 rfl rfl ?_; simp only [Act.put, List.setIfInBounds_toArray, List.set_cons_zero, List.set_cons_succ])
          first | (refine plan_quiet nth15 rfl ?_; intro KP hKP; go_big_quiet_op; go_big_quiet_on) | (refine plan_skip_q nth15 rfl rfl ?_; simp only [Act.put, List.setIfInBounds_toArray, List.set_cons_zero, List.set_cons_succ])
          first | (refine plan_quiet nth16 rfl ?_; intro KP hKP; go_big_quiet_op; go_big_quiet_on) | (refine plan_skip_q nth16 rfl rfl ?_; simp only [Act.put, List.setIfInBounds_toArray, List.set_cons_zero, List.set_cons_succ])
          first | (refine plan_quiet nth17 rfl ?_; intro KP hKP; go_big_quiet_op; go_big_quiet_on) | (refine plan_skip_q nth17 rfl rfl ?_; simp only [Act.put, List.setIfInBounds_toArray, List.set_cons_zero, List.set_cons_succ])
          first | (refine plan_quiet nth18 rfl ?_; intro KP hKP; go_big_quiet_op; go_big_quiet_on) | (refine plan_skip_q nth18 rfl rfl ?_; simp only [Act.put, List.setIfInBounds_toArray, List.set_cons_zero, List.set_cons_succ])
          first | (refine plan_quiet nth19 rfl ?_; intro KP hKP; go_big_quiet_op; go_big_quiet_on) | (refine plan_skip_q nth19 rfl rfl ?_; simp only [Act.put, List.setIfInBounds_toArray, List.set_cons_zero, List.set_cons_succ])
          first | (refine plan_quiet nth20 rfl ?_; intro KP hKP; go_big_quiet_op; go_big_quiet_on) | (refine plan_skip_q nth20 rfl rfl ?_; simp only [Act.put, List.setIfInBounds_toArray, List.set_cons_zero, List.set_cons_succ])
          first | (refine plan_quiet nth21 rfl ?_; intro KP hKP; go_big_quiet_op; go_big_quiet_on) | (refine plan_skip_q nth21 rfl rfl ?_; simp only [Act.put, List.setIfInBounds_toArray, List.set_cons_zero, List.set_cons_succ])
          first | (refine plan_quiet nth22 rfl ?_; intro KP hKP; go_big_quiet_op; go_big_quiet_on) | (refine plan_skip_q nth22 rfl rfl ?_; simp only [Act.put, List.setIfInBounds_toArray, List.set_cons_zero, List.set_cons_succ])
          first | (refine plan_quiet nth23 rfl ?_; intro KP hKP; go_big_quiet_op; go_big_quiet_on) | (refine plan_skip_q nth23 rfl rfl ?_; simp only [Act.put, List.setIfInBounds_toArray, List.set_cons_zero, List.set_cons_succ])
          first | (refine plan_quiet nth24 rfl ?_; intro KP hKP; go_big_quiet_op; go_big_quiet_on) | (refine plan_skip_q nth24 rfl rfl ?_; simp only [Act.put, List.setIfInBounds_toArray, List.set_cons_zero, List.set_cons_succ])
          first | (refine plan_quiet nth25 rfl ?_; intro KP hKP; go_big_quiet_op; go_big_quiet_on) | (refine plan_skip_q nth25 rfl rfl ?_; simp only [Act.put, List.setIfInBounds_toArray, List.set_cons_zero, List.set_cons_succ])
          refine plan_nil ?_
          go_wp2_with fail
          go_ret
          exact .mk (by rw [X2.out]; rfl) bb
        · have ho := Lib.hid (main2 hl2)
          clear e main main2
          go_wp2_with fail
          refine wp_region_plan2 [(0, true), (1, true), (2, false), (3, true), (4, true), (5, true), (6, true), (7, true), (8, true), (9, true), (10, true), (11, true), (12, true), (13, true), (14, true), (15, true), (16, true), (17, true), (18, true), (19, true), (20, true), (21, true), (22, true), (23, true), (24, true), (25, true)] (C := LaterC _) (by kernel_rfl) (by kernel_rfl) (by kernel_rfl) rfl (fun _ _ d _ _ h => by cases d <;> exact h) (LaterC.mk ((Below.refl _ _).drew)) ?_
          first | (refine plan_quiet nth0 rfl ?_; intro KP hKP; go_big_quiet_op; go_big_quiet_on) | (refine plan_skip_q nth0 rfl rfl ?_; simp only [Act.put, List.setIfInBounds_toArray, List.set_cons_zero, List.set_cons_succ])
          first | (refine plan_quiet nth1 rfl ?_; intro KP hKP; go_big_quiet_op; go_big_quiet_on) | (refine plan_skip_q nth1 rfl rfl ?_; simp only [Act.put, List.setIfInBounds_toArray, List.set_cons_zero, List.set_cons_succ])
          first | (refine plan_loud nth2 rfl ?_; intro KP hKP; go_wp2_with (first | (go_at_call 140; first | ((with_reducible refine (Calls.later (CW.out _)).mono ?_); rintro e w' ⟨rfl, xl, rfl⟩; have hsz := xl.bel.size; (try simp only [World.size_alloc, World.size_setCell, World.size_drew] at hsz); (try have hz0 : w.heap.size < xl.w.heap.size := (by omega)); (try have hz1 : w.heap.size + 1 < xl.w.heap.size := (by omega)); (try have hz2 : w.heap.size + 1 + 1 < xl.w.heap.size := (by omega))) | ((with_reducible refine (CW.out _).mono ?_); rintro e w' ⟨rfl, xl, rfl⟩; have hsz := xl.bel.size; (try simp only [World.size_alloc, World.size_setCell, World.size_drew] at hsz); (try have hz0 : w.heap.size < xl.w.heap.size := (by omega)); (try have hz1 : w.heap.size + 1 < xl.w.heap.size := (by omega)); (try have hz2 : w.heap.size + 1 + 1 < xl.w.heap.size := (by omega))))); refine hKP _ _ (LaterC.mk bb) ?_; clear hKP KP) | (refine plan_skip nth2 rfl rfl (LaterC.mk bb) ?_; simp only [Act.put, List.setIfInBounds_toArray, List.set_cons_zero, List.set_cons_succ])
          first | (refine plan_quiet nth3 rfl ?_; intro KP hKP; go_big_quiet_op; go_big_quiet_on) | (refine plan_skip_q nth3 rfl rfl ?_; simp only [Act.put, List.setIfInBounds_toArray, List.set_cons_zero, List.set_cons_succ])
          first | (refine plan_quiet nth4 rfl ?_; intro KP hKP; go_big_quiet_op; go_big_quiet_on) | (refine plan_skip_q nth4 rfl rfl ?_; simp only [Act.put, List.setIfInBounds_toArray, List.set_cons_zero, List.set_cons_succ])
          first | (refine plan_quiet nth5 rfl ?_; intro KP hKP; go_big_quiet_op; go_big_quiet_on) | (refine plan_skip_q nth5 rfl rfl ?_; simp only [Act.put, List.setIfInBounds_toArray, List.set_cons_zero, List.set_cons_succ])
          first | (refine plan_quiet nth6 rfl ?_; intro KP hKP; go_big_quiet_op; go_big_quiet_on) | (refine plan_skip_q nth6 rfl rfl ?_; simp only [Act.put, List.setIfInBounds_toArray, List.set_cons_zero, List.set_cons_succ])
          first | (refine plan_quiet nth7 rfl ?_; intro KP hKP; go_big_quiet_op; go_big_quiet_on) | (refine plan_skip_q nth7 rfl rfl ?_; simp only [Act.put, List.setIfInBounds_toArray, List.set_cons_zero, List.set_cons_succ])
          first | (refine plan_quiet nth8 rfl ?_; intro KP hKP; go_big_quiet_op; go_big_quiet_on) | (refine plan_skip_q nth8 rfl rfl ?_; simp only [Act.put, List.setIfInBounds_toArray, List.set_cons_zero, List.set_cons_succ])
          first | (refine plan_quiet nth9 rfl ?_; intro KP hKP; go_big_quiet_op; go_big_quiet_on) | (refine plan_skip_q nth9 rfl rfl ?_; simp only [Act.put, List.setIfInBounds_toArray, List.set_cons_zero, List.set_cons_succ])
          first | (refine plan_quiet nth10 rfl ?_; intro KP hKP; go_big_quiet_op; go_big_quiet_on) | (refine plan_skip_q nth10 rfl rfl ?_; simp only [Act.put, List.setIfInBounds_toArray, List.set_cons_zero, List.set_cons_succ])
          first | (refine plan_quiet nth11 rfl ?_; intro KP hKP; go_big_quiet_op; go_big_quiet_on) | (refine plan_skip_q nth11 rfl rfl ?_; simp only [Act.put, List.setIfInBounds_toArray, List.set_cons_zero, List.set_cons_succ])
          first | (refine plan_quiet nth12 rfl ?_; intro KP hKP; go_big_quiet_op; go_big_quiet_on) | (refine plan_skip_q nth12 rfl rfl ?_; simp only [Act.put, List.setIfInBounds_toArray, List.set_cons_zero, List.set_cons_succ])
          first | (refine plan_quiet nth13 rfl ?_; intro KP hKP; go_big_quiet_op; go_big_quiet_on) | (refine plan_skip_q nth13 rfl rfl ?_; simp only [Act.put, List.setIfInBounds_toArray, List.set_cons_zero, List.set_cons_succ])
          first | (refine plan_quiet nth14 rfl ?_; intro KP hKP; go_big_quiet_op; go_big_quiet_on) | (refine plan_skip_q nth14 rfl rfl ?_; simp only [Act.put, List.setIfInBounds_toArray, List.set_cons_zero, List.set_cons_succ])
          first | (refine plan_quiet nth15 rfl ?_; intro KP hKP; go_big_quiet_op; go_big_quiet_on) | (refine plan_skip_q nth15 rfl rfl ?_; simp only [Act.put, List.setIfInBounds_toArray, List.set_cons_zero, List.set_cons_succ])
          first | (refine plan_quiet nth16 rfl ?_; intro KP hKP; go_big_quiet_op; go_big_quiet_on) | (refine plan_skip_q nth16 rfl rfl ?_; simp only [Act.put, List.setIfInBounds_toArray, List.set_cons_zero, List.set_cons_succ])
          first | (refine plan_quiet nth17 rfl ?_; intro KP hKP; go_big_quiet_op; go_big_quiet_on) | (refine plan_skip_q nth17 rfl rfl ?_; simp only [Act.put, List.setIfInBounds_toArray, List.set_cons_zero, List.set_cons_succ])
          first | (refine plan_quiet nth18 rfl ?_; intro KP hKP; go_big_quiet_op; go_big_quiet_on) | (refine plan_skip_q nth18 rfl rfl ?_; simp only [Act.put, List.setIfInBounds_toArray, List.set_cons_zero, List.set_cons_succ])
          first | (refine plan_quiet nth19 rfl ?_; intro KP hKP; go_big_quiet_op; go_big_quiet_on) | (refine plan_skip_q nth19 rfl rfl ?_; simp only [Act.put, List.setIfInBounds_toArray, List.set_cons_zero, List.set_cons_succ])
          first | (refine plan_quiet nth20 rfl ?_; intro KP hKP; go_big_quiet_op; go_big_quiet_on) | (refine plan_skip_q nth20 rfl rfl ?_; simp only [Act.put, List.setIfInBounds_toArray, List.set_cons_zero, List.set_cons_succ])
          first | (refine plan_quiet nth21 rfl ?_; intro KP hKP; go_big_quiet_op; go_big_quiet_on) | (refine plan_skip_q nth21 rfl rfl ?_; simp only [Act.put, List.setIfInBounds_toArray, List.set_cons_zero, List.set_cons_succ])
          first | (refine plan_quiet nth22 rfl ?_; intro KP hKP; go_big_quiet_op; go_big_quiet_on) | (refine plan_skip_q nth22 rfl rfl ?_; simp only [Act.put, List.setIfInBounds_toArray, List.set_cons_zero, List.set_cons_succ])
          first | (refine plan_quiet nth23 rfl ?_; intro KP hKP; go_big_quiet_op; go_big_quiet_on) | (refine plan_skip_q nth23 rfl rfl ?_; simp only [Act.put, List.setIfInBounds_toArray, List.set_cons_zero, List.set_cons_succ])
          first | (refine plan_quiet nth24 rfl ?_; intro KP hKP; go_big_quiet_op; go_big_quiet_on) | (refine plan_skip_q nth24 rfl rfl ?_; simp only [Act.put, List.setIfInBounds_toArray, List.set_cons_zero, List.set_cons_succ])
          first | (refine plan_quiet nth25 rfl ?_; intro KP hKP; go_big_quiet_op; go_big_quiet_on) | (refine plan_skip_q nth25 rfl rfl ?_; simp only [Act.put, List.setIfInBounds_toArray, List.set_cons_zero, List.set_cons_succ])
          refine plan_nil ?_
          go_wp2_with fail
          go_loopw [7] (fun t7 wr => ∃ j7 : Nat, j7 ≤ n ∧ t7 = .int .i64 j7 ∧ (V[j + 1].own.take j7).all ownB = true ∧ ∃ z2 : Later (z.w.alloc (.cells #[.string V[j + 1].holder, .slice ai V[j + 1].own.length ci] 64)), wr = z2.w) (fun t7 _ => n - (intOf t7).toNat)
          case atStart => exact ⟨0, Nat.zero_le _, rfl, rfl, LaterC.mk bb⟩
          case round =>
            obtain ⟨j7, hj7, rfl, hall, z2, rfl⟩ := hrel
            have hz2 := z2.bel.size
            simp only [World.size_alloc] at hz2
            have h4 : z.w.heap.size < z2.w.heap.size := by omega
            replace hall := Lib.hid hall
            by_cases hlt7 : j7 < n
            · have hj8 : j7 < V[j + 1].own.length := by have := hl.out; omega
              have hj9 : (j7 : Int) < (n : Int) := by omega
              have hj10 : (j7 : Int) < (V[j + 1].own.length : Int) := by omega
              obtain ⟨b7, o7, rfl, hb7, c7⟩ := q2.out.str hj8
              have hb8 : b7 < z2.w.heap.size := by omega
              have hb9 : b7 < z.w.heap.size := by omega
              have CO7 := fun w => CO.out _ (List.getElem_mem hj8) w
              have S7 := fun (h : ownB (V[j + 1].own[j7]'hj8) = true) => all_take1 (p := ownB) hj8 hall.out h
              have N7 := fun (h : ownB (V[j + 1].own[j7]'hj8) = false) => all_no (p := ownB) hj8 h
              have e7 : ownB (V[j + 1].own[j7]'hj8) = ((V[j + 1].own[j7]'hj8).toList.isEmpty || wordB (V[j + 1].own[j7]'hj8)) := rfl
              generalize V[j + 1].own[j7]'hj8 = s at *
              generalize ownB s = os at *
              generalize wordB s = ws at *
              replace CO7 := Lib.hid CO7
              replace S7 := Lib.hid S7
              replace N7 := Lib.hid N7
              cases hse : s.toList.isEmpty
              · cases ws
                · have X2 := Lib.hid (N.out (by rw [ho.out]; exact N7.out (by rw [e7, hse]; rfl)))
                  clear e7 S7 N7 Y N
                  go_wp2_with fail
                  with_reducible refine (CO7.out _).mono ?_
                  rintro e w' ⟨rfl, y8, rfl⟩
                  have hsy8 := y8.bel.size
                  (try simp only [World.size_alloc, World.size_setCell, World.size_drew] at hsy8)
                  go_wp2_with fail
                  go_ret
                  exact .mk (by rw [X2.out]; rfl) bb
                · have X2 := Lib.hid (S7.out (by rw [e7, hse]; rfl))
                  clear e7 S7 N7
                  go_wp2_with fail
                  with_reducible refine (CO7.out _).mono ?_
                  rintro e w' ⟨rfl, y8, rfl⟩
                  have hsy8 := y8.bel.size
                  (try simp only [World.size_alloc, World.size_setCell, World.size_drew] at hsy8)
                  go_wp2_with fail
                  go_roundw
                  case rel => exact ⟨j7 + 1, by omega, by go_num, X2.out, LaterC.mk bb⟩
                  case measure => first | (simp [intOf]; done) | (simp [intOf]; omega) | omega
              · have X2 := Lib.hid (S7.out (by rw [e7, hse]; rfl))
                clear e7 S7 N7
                go_wp2_with fail
                go_roundw
                case rel => exact ⟨j7 + 1, by omega, by go_num, X2.out, LaterC.mk bb⟩
                case measure => first | (simp [intOf]; done) | (simp [intOf]; omega) | omega
            · obtain rfl : j7 = n := by omega
              have hal := hall.out
              rw [List.take_of_length_le (by have := hl.out; omega)] at hal
              have X2 := Lib.hid (Y.out (by rw [ho.out]; exact hal))
              clear hal hall Y N
              go_wp2_with fail
              go_roundw
              case rel => exact ⟨j + 1 + 1, by omega, by go_num, X2.out, LaterC.mk bb⟩
              case measure => first | (simp [intOf]; done) | (simp [intOf]; omega) | omega
    · obtain rfl : k = V.length := by omega
      have X1 := Lib.hid (show VB = true from XY.out hgood.out)
      go_wp2_with fail
      with_reducible refine (l01In_b _ rfl).mono ?_
      rintro e w' ⟨rfl, y3, rfl⟩
      have hs3 := y3.bel.size
      go_wp2_with fail
      go_ret
      exact .mk (by rw [X1.out]; rfl) bb
set_option maxHeartbeats 2000000 in
theorem sAreViews_any (R : List (List Pt)) (V : List Vw) (a b : Option Addr) (n c m d : Nat) (w : World) (hn : R.length = n) (hm : n ≤ 1048576) (ok : ∀ r ∈ R, r.length ≤ 1048576) (hr : RingsR w a R)
    (hn' : V.length = m) (hm' : m ≤ 1048576) (ok' : ∀ v ∈ V, VwOk v) (hr' : ViewsR w b V) :
    Calls Tryz.prog 56 #[.slice a n c, .slice b m d] w (Ret w (.bool (viewsB R V))) := by
  subst hn hn'
  have CM := Lib.hid (fun (w : World) (hr : RingsR w a R) => sIsMap_any R a R.length c w rfl hm ok hr)
  have CA := Lib.hid (fun (w : World) (hr' : ViewsR w b V) => sAre_any V R.length b V.length d w hm rfl hm' ok' hr')
  have X : viewsB R V = (mapB R && (vwsB V R.length && inB V.length 1 4)) := rfl
  generalize viewsB R V = B at *
  generalize mapB R = MB at *
  generalize (vwsB V R.length && inB V.length 1 4) = VB at *
  replace X := Lib.hid X
  replace hr := Lib.hid hr
  replace hr' := Lib.hid hr'
  clear ok ok'
  cases MB
  · have X2 := Lib.hid (show B = false by rw [X.out]; rfl)
    go_enter Tryz.func56, Tryz.ntmps56
    go_wp2_with fail
    with_reducible refine (CM.out _ (hr.out.bel bb)).mono ?_
    rintro e w' ⟨rfl, y1, rfl⟩
    have hsy1 := y1.bel.size
    (try simp only [World.size_alloc, World.size_setCell, World.size_drew] at hsy1)
    go_wp2_with fail
    go_ret
    exact .mk (by rw [X2.out]; rfl) bb
  · have X2 := Lib.hid (show B = VB by rw [X.out]; rfl)
    go_enter Tryz.func56, Tryz.ntmps56
    go_wp2_with fail
    with_reducible refine (CM.out _ (hr.out.bel bb)).mono ?_
    rintro e w' ⟨rfl, y1, rfl⟩
    have hsy1 := y1.bel.size
    (try simp only [World.size_alloc, World.size_setCell, World.size_drew] at hsy1)
    go_wp2_with fail
    with_reducible refine (CA.out _ (hr'.out.bel bb)).mono ?_
    rintro e w' ⟨rfl, y2, rfl⟩
    have hsy2 := y2.bel.size
    (try simp only [World.size_alloc, World.size_setCell, World.size_drew] at hsy2)
    go_wp2_with fail
    go_ret
    exact .mk (by rw [X2.out]; rfl) bb
end Go.Proofs.YtklcaphkfdlipaaGreatDoor

/- Numbers within bounds. -/
set_option linter.unusedSimpArgs false
set_option linter.unusedVariables false
namespace Go.Proofs.YtklcaphkfdlipaaGreatDoor
open Go.RowKit
set_option maxHeartbeats 1000000 in
theorem areWithin_any (l : List Int) (lo hi : Int) (a : Option Addr) (n c : Nat) (w : World) (hn : l.length = n) (hm : n ≤ 1048576) (hr : Row w a (intCells l)) :
    Calls Tryz.prog 107 #[.slice a n c, .int .i64 lo, .int .i64 hi] w (Ret w (.bool (l.all fun x => inB x lo hi))) := by
  subst hn
  replace hr := Lib.hid hr
  go_enter Tryz.func107, Tryz.ntmps107
  go_wp2_with fail
  go_loopw [11] (fun i wr => ∃ k : Nat, k ≤ l.length ∧ i = .int .i64 k ∧ (l.take k).all (fun x => inB x lo hi) = true ∧ ∃ z : Later w, wr = z.w) (fun i _ => l.length - (intOf i).toNat)
  case atStart => exact ⟨0, Nat.zero_le _, rfl, rfl, ⟨_, Below.refl _ _⟩, rfl⟩
  case round =>
    obtain ⟨k, hk, rfl, hall, z, rfl⟩ := hrel
    replace hall := Lib.hid hall
    have hzz := z.bel.size
    by_cases hlt : k < l.length
    · obtain ⟨b, o, rfl, hb, hc⟩ := hr.out.int hlt
      cases hv : inB l[k] lo hi
      · have X := Lib.hid (all_no (p := fun x => inB x lo hi) hlt hv)
        replace hv := Lib.hid hv
        go_wp2_with (first | (go_at_call 75; first | ((with_reducible refine (Calls.later (within_b _ hv.out)).mono ?_); rintro e w' ⟨rfl, xl, rfl⟩; have hsz := xl.bel.size; (try simp only [World.size_alloc, World.size_setCell, World.size_drew] at hsz); (try have hz0 : w.heap.size < xl.w.heap.size := (by omega)); (try have hz1 : w.heap.size + 1 < xl.w.heap.size := (by omega)); (try have hz2 : w.heap.size + 1 + 1 < xl.w.heap.size := (by omega))) | ((with_reducible refine (within_b _ hv.out).mono ?_); rintro e w' ⟨rfl, xl, rfl⟩; have hsz := xl.bel.size; (try simp only [World.size_alloc, World.size_setCell, World.size_drew] at hsz); (try have hz0 : w.heap.size < xl.w.heap.size := (by omega)); (try have hz1 : w.heap.size + 1 < xl.w.heap.size := (by omega)); (try have hz2 : w.heap.size + 1 + 1 < xl.w.heap.size := (by omega)))))
        go_ret
        exact .mk (by rw [X.out]; rfl) bb
      · have X := Lib.hid (all_take1 (p := fun x => inB x lo hi) hlt hall.out hv)
        replace hv := Lib.hid hv
        go_wp2_with (first | (go_at_call 75; first | ((with_reducible refine (Calls.later (within_b _ hv.out)).mono ?_); rintro e w' ⟨rfl, xl, rfl⟩; have hsz := xl.bel.size; (try simp only [World.size_alloc, World.size_setCell, World.size_drew] at hsz); (try have hz0 : w.heap.size < xl.w.heap.size := (by omega)); (try have hz1 : w.heap.size + 1 < xl.w.heap.size := (by omega)); (try have hz2 : w.heap.size + 1 + 1 < xl.w.heap.size := (by omega))) | ((with_reducible refine (within_b _ hv.out).mono ?_); rintro e w' ⟨rfl, xl, rfl⟩; have hsz := xl.bel.size; (try simp only [World.size_alloc, World.size_setCell, World.size_drew] at hsz); (try have hz0 : w.heap.size < xl.w.heap.size := (by omega)); (try have hz1 : w.heap.size + 1 < xl.w.heap.size := (by omega)); (try have hz2 : w.heap.size + 1 + 1 < xl.w.heap.size := (by omega)))))
        go_roundw
        case rel => exact ⟨k + 1, by omega, by go_num, X.out, ⟨_, bb⟩, rfl⟩
        case measure => first | (simp [intOf]; done) | (simp [intOf]; omega) | omega
    · obtain rfl : k = l.length := by omega
      have X := Lib.hid (show l.all (fun x => inB x lo hi) = true by have := hall.out; rwa [List.take_length] at this)
      go_wp2_with fail
      go_ret
      exact .mk (by rw [X.out]; rfl) bb
end Go.Proofs.YtklcaphkfdlipaaGreatDoor

/- Disputed rings: both sides. -/
set_option linter.unusedSimpArgs false
set_option linter.unusedVariables false
namespace Go.Proofs.YtklcaphkfdlipaaGreatDoor
open Go.RowKit
def vw0 : Vw := ⟨.empty, []⟩
def atV (V : List Vw) (i : Nat) : Vw := V.getD i vw0
theorem atV_get {V : List Vw} {i : Nat} (h : i < V.length) : atV V i = V[i] := by simp [atV, h]
def ownAt (v : Vw) (i : Nat) : ByteArray := v.own.getD i .empty
theorem ownAt_get {v : Vw} {i : Nat} (h : i < v.own.length) : ownAt v i = v.own[i] := by simp [ownAt, h]
/-- What is true of views over so many rings. -/
structure VwsOk (V : List Vw) (n : Nat) : Prop where
  one : 1 ≤ V.length
  four : V.length ≤ 4
  own : ∀ v ∈ V, v.own.length = n
theorem viewsB_ok {R : List (List Pt)} {V : List Vw} (h : viewsB R V = true) : VwsOk V R.length := by
  unfold viewsB at h
  simp only [Bool.and_eq_true, inB_iff] at h
  obtain ⟨_, h1, h2⟩ := h
  refine ⟨by omega, by omega, fun v hv => ?_⟩
  obtain ⟨i, hi, rfl⟩ := List.mem_iff_getElem.1 hv
  have := vwsB_at h1 hi
  rw [vwP_at hi, Bool.and_eq_true] at this
  have h3 := this.1
  unfold isVB at h3
  simp only [Bool.and_eq_true, decide_eq_true_eq] at h3
  exact h3.1.2
theorem viewsB_map {R : List (List Pt)} {V : List Vw} (h : viewsB R V = true) : mapB R = true := by
  unfold viewsB at h
  simp only [Bool.and_eq_true] at h
  exact h.1
/-- The error of a map, views and indices. -/
noncomputable def viewC (R : List (List Pt)) (V : List Vw) (I : List Int) : Int := if viewsB R V then (if I.all (fun x => inB x 0 ((V.length : Int) - 1)) then 0 else 2) else 1
set_option maxHeartbeats 1000000 in
theorem viewCode_any (R : List (List Pt)) (V : List Vw) (I : List Int) (a b e : Option Addr) (n c m d p q : Nat) (w : World) (hn : R.length = n) (hm : n ≤ 1048576) (hc : n ≤ c) (hcm : c ≤ maxLen) (ok : ∀ r ∈ R, r.length ≤ 1048576) (hr : RingsR w a R)
    (hn' : V.length = m) (hm' : m ≤ 1048576) (ok' : ∀ v ∈ V, VwOk v) (hr' : ViewsR w b V) (hp : I.length = p) (hp' : p ≤ 1000) (hri : Row w e (intCells I)) :
    Calls Tryz.prog 60 #[.slice a n c, .slice b m d, .slice e p q] w (Ret w (.int .i64 (viewC R V I))) := by
  have CA := fun (w : World) (hr : RingsR w a R) (hr' : ViewsR w b V) => areViews_any R V a b n c m d w hn hm hc hcm ok hr hn' hm' ok' hr'
  have CI := fun (w : World) (hri : Row w e (intCells I)) => areWithin_any I 0 ((m : Int) - 1) e p q w hp (by omega) hri
  have X : viewC R V I = if viewsB R V then (if I.all (fun x => inB x 0 ((m : Int) - 1)) then 0 else 2) else 1 := by rw [← hn']; rfl
  generalize viewC R V I = K at *
  generalize viewsB R V = B at *
  generalize I.all (fun x => inB x 0 ((m : Int) - 1)) = B2 at *
  replace CA := Lib.hid CA
  replace CI := Lib.hid CI
  replace hr := Lib.hid hr
  replace hr' := Lib.hid hr'
  replace hri := Lib.hid hri
  clear ok ok' hcm hn' hn
  cases B
  · have X2 := Lib.hid (show K = 1 by rw [X]; rfl)
    clear X
    go_enter Tryz.func60, Tryz.ntmps60
    go_wp2_with fail
    with_reducible refine (CA.out _ (hr.out.bel bb) (hr'.out.bel bb)).mono ?_
    rintro e w' ⟨rfl, y1, rfl⟩
    have hsy1 := y1.bel.size
    (try simp only [World.size_alloc, World.size_setCell, World.size_drew] at hsy1)
    go_wp2_with fail
    go_ret
    exact .mk (by rw [X2.out]; rfl) bb
  · cases B2
    · have X2 := Lib.hid (show K = 2 by rw [X]; rfl)
      clear X
      go_enter Tryz.func60, Tryz.ntmps60
      go_wp2_with fail
      with_reducible refine (CA.out _ (hr.out.bel bb) (hr'.out.bel bb)).mono ?_
      rintro e w' ⟨rfl, y1, rfl⟩
      have hsy1 := y1.bel.size
      (try simp only [World.size_alloc, World.size_setCell, World.size_drew] at hsy1)
      go_wp2_with fail
      with_reducible refine (lengthV_any _ _ _ _).mono ?_
      rintro e w' ⟨rfl, y2, rfl⟩
      have hsy2 := y2.bel.size
      (try simp only [World.size_alloc, World.size_setCell, World.size_drew] at hsy2)
      go_wp2_with fail
      with_reducible refine (CI.out _ (hri.out.bel bb)).mono ?_
      rintro e w' ⟨rfl, y3, rfl⟩
      have hsy3 := y3.bel.size
      (try simp only [World.size_alloc, World.size_setCell, World.size_drew] at hsy3)
      go_wp2_with fail
      go_ret
      exact .mk (by rw [X2.out]; rfl) bb
    · have X2 := Lib.hid (show K = 0 by rw [X]; rfl)
      clear X
      go_enter Tryz.func60, Tryz.ntmps60
      go_wp2_with fail
      with_reducible refine (CA.out _ (hr.out.bel bb) (hr'.out.bel bb)).mono ?_
      rintro e w' ⟨rfl, y1, rfl⟩
      have hsy1 := y1.bel.size
      (try simp only [World.size_alloc, World.size_setCell, World.size_drew] at hsy1)
      go_wp2_with fail
      with_reducible refine (lengthV_any _ _ _ _).mono ?_
      rintro e w' ⟨rfl, y2, rfl⟩
      have hsy2 := y2.bel.size
      (try simp only [World.size_alloc, World.size_setCell, World.size_drew] at hsy2)
      go_wp2_with fail
      with_reducible refine (CI.out _ (hri.out.bel bb)).mono ?_
      rintro e w' ⟨rfl, y3, rfl⟩
      have hsy3 := y3.bel.size
      (try simp only [World.size_alloc, World.size_setCell, World.size_drew] at hsy3)
      go_wp2_with fail
      go_ret
      exact .mk (by rw [X2.out]; rfl) bb
end Go.Proofs.YtklcaphkfdlipaaGreatDoor

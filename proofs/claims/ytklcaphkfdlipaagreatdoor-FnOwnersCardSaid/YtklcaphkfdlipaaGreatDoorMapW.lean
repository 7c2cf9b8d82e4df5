import Derived.Test.YtklcaphkfdlipaaGreatDoorPackVa
import Derived.Test.YtklcaphkfdlipaaGreatDoorPackVf
import Derived.Test.YtklcaphkfdlipaaGreatDoorPackVc
/- Is it a map: the program's way. -/
set_option linter.unusedSimpArgs false
set_option linter.unusedVariables false
namespace Go.Proofs.YtklcaphkfdlipaaGreatDoor
open Go.RowKit
theorem mapAt_any {R : List (List Pt)} {i : Nat} (h : i < R.length) : mapAt R i = !(R.take i).any (fun o => !togB sideZ R[i] o) := by
  refine bool_eq ?_
  unfold mapAt
  rw [Bool.not_eq_true', List.any_eq_false, List.all_eq_true]
  have e : R.getD i [] = R[i] := by simp [h]
  rw [e]
  constructor
  · intro hh o ho
    obtain ⟨j, hj, rfl⟩ := List.mem_iff_getElem.1 ho
    have hj' : j < i := by simp at hj; omega
    have := hh j (List.mem_range.2 hj')
    rw [List.getElem_take]
    simpa [show j < R.length by omega] using this
  · intro hh j hj
    have hj' := List.mem_range.1 hj
    have h1 : j < (R.take i).length := by rw [List.length_take]; omega
    have := hh _ (List.getElem_mem h1)
    rw [List.getElem_take] at this
    simpa [show j < R.length by omega] using this
set_option maxHeartbeats 1000000 in
theorem isMap1_any (r : List Pt) (a : Option Addr) (c : Nat) (w : World) (hm : r.length ≤ 1048576) (hc : r.length ≤ c) (hcm : c ≤ maxLen) (hr : Row w a (ptsCells r)) :
    Calls Tryz.prog 128 #[.slice a r.length c] w (Ret w (.bool (!ringB r))) := by
  have CR := Lib.hid (fun (w : World) (hr : Row w a (ptsCells r)) => isRing_any r a r.length c w rfl hm hc hcm hr)
  replace hr := Lib.hid hr
  generalize ringB r = B at *
  go_enter Tryz.func128, Tryz.ntmps128
  go_wp2_with fail
  with_reducible refine (CR.out _ (hr.out.bel bb)).mono ?_
  rintro e w' ⟨rfl, y1, rfl⟩
  have hsy1 := y1.bel.size
  (try simp only [World.size_alloc, World.size_setCell, World.size_drew] at hsy1)
  go_wp2_with fail
  go_ret
  exact .mk rfl bb
theorem tells_isMap1 {R : List (List Pt)} {w : World} (ok : ∀ r ∈ R, r.length ≤ 1048576) : TellsG 128 #[] #[] (fun r => !ringB r) R w :=
  fun r hr ai ci w' hb hrow h1 h2 => by simpa using isMap1_any r ai ci w' (ok r hr) h1 h2 hrow
theorem enters_isMap1 : ∀ args w, (callFunc 128 args).run Tryz.prog w = .ok (.enter 128 args) w := fun _ _ => by kernel_rfl
set_option maxHeartbeats 1000000 in
theorem isMap2_any (A B : List Pt) (g : Nat) (a b : Option Addr) (c d : Nat) (w : World) (hA : ringB A = true) (hB : ringB B = true) (hg : w.cell? ⟨g, 0, none⟩ = some (.slice a A.length c)) (hr : Row w a (ptsCells A)) (hr' : Row w b (ptsCells B)) :
    Calls Tryz.prog 130 #[.slice b B.length d, .pointer (some ⟨g, 0, none⟩)] w (Ret w (.bool (!togB sideZ A B))) := by
  have CR := Lib.hid (fun (w : World) (hr : Row w a (ptsCells A)) (hr' : Row w b (ptsCells B)) => fitTogether_any A B a b A.length c B.length d w rfl rfl hA hB hr hr')
  replace hr := Lib.hid hr
  replace hr' := Lib.hid hr'
  clear hA hB
  generalize togB sideZ A B = T at *
  go_enter Tryz.func130, Tryz.ntmps130
  go_wp2_with fail
  with_reducible refine (CR.out _ (hr.out.bel bb) (hr'.out.bel bb)).mono ?_
  rintro e w' ⟨rfl, y1, rfl⟩
  have hsy1 := y1.bel.size
  (try simp only [World.size_alloc, World.size_setCell, World.size_drew] at hsy1)
  go_wp2_with fail
  go_ret
  exact .mk rfl bb
theorem tells_isMap2 {R : List (List Pt)} {A : List Pt} {g c : Nat} {a : Option Addr} {w : World} (ok : ∀ r ∈ R, ringB r = true) (hA : ringB A = true) (hg : w.cell? ⟨g, 0, none⟩ = some (.slice a A.length c)) (hgw : g < w.heap.size) (hr : Row w a (ptsCells A)) :
    TellsG 130 #[] #[.pointer (some ⟨g, 0, none⟩)] (fun r => !togB sideZ A r) R w :=
  fun r hm ai ci w' hb hrow h1 h2 => by simpa using isMap2_any A r g a ai c ci w' hA (ok r hm) ((hb.cell hgw).trans hg) (hr.bel hb) hrow
theorem enters_isMap2 : ∀ args w, (callFunc 130 args).run Tryz.prog w = .ok (.enter 130 args) w := fun _ _ => by kernel_rfl
theorem any_not_all {α : Type} (p : α → Bool) (L : List α) : L.any (fun x => !p x) = !L.all p := by
  induction L with
  | nil => rfl
  | cons x L ih => simp only [List.any_cons, List.all_cons, ih, Bool.not_and]
set_option maxRecDepth 4000 in
set_option maxHeartbeats 4000000 in
theorem isMap_any (R : List (List Pt)) (a : Option Addr) (n c : Nat) (w : World) (hn : R.length = n) (hm : n ≤ 1048576) (hc : n ≤ c) (hcm : c ≤ maxLen) (ok : ∀ r ∈ R, r.length ≤ 1048576) (hr : RingsR w a R) :
    Calls Tryz.prog 90 #[.slice a n c] w (Ret w (.bool (mapB R))) := by
  subst hn
  unfold maxLen at hcm
  by_cases h6 : R.length ≤ 6
  rotate_left
  · have X := Lib.hid (mapB_long h6)
    clear hr ok
    go_enter Tryz.func90, Tryz.ntmps90
    go_wp2_with fail
    go_ret
    exact .mk (by rw [X.out]; rfl) bb
  have CC := Lib.hid (fun (w : World) (hr : RingsR w a R) => containsFuncG_any 128 #[] #[] (fun r => !ringB r) R a R.length c w enters_isMap1 rfl hm hr (tells_isMap1 ok))
  rw [any_not_all] at CC
  replace hr := Lib.hid hr
  cases hall : R.all ringB
  · rw [hall] at CC
    have X := Lib.hid (mapB_ring hall)
    clear hall ok
    go_enter Tryz.func90, Tryz.ntmps90
    go_wp2_with fail
    with_reducible refine (CC.out _ (hr.out.bel bb)).mono ?_
    rintro e w' ⟨rfl, y1, rfl⟩
    have hsy1 := y1.bel.size
    (try simp only [World.size_alloc, World.size_setCell, World.size_drew] at hsy1)
    go_wp2_with fail
    go_ret
    exact .mk (by rw [X.out]; rfl) bb
  rw [hall] at CC
  have ok2 := Lib.hid (List.all_eq_true.1 hall)
  have XA := Lib.hid (fun h => mapB_all h6 hall h)
  have XN := Lib.hid (fun (i : Nat) (h : i < R.length) hf => mapB_at h hf)
  have XT := Lib.hid (fun (i : Nat) (h : i < R.length) => mapAt_any h)
  clear hall ok
  generalize mapB R = MB at *
  go_enter Tryz.func90, Tryz.ntmps90
  go_wp2_with fail
  with_reducible refine (CC.out _ (hr.out.bel bb)).mono ?_
  rintro e w' ⟨rfl, y1, rfl⟩
  have hsy1 := y1.bel.size
  (try simp only [World.size_alloc, World.size_setCell, World.size_drew] at hsy1)
  go_wp2_with fail
  go_loopw [14] (fun t14 wr => ∃ k : Nat, k ≤ R.length ∧ t14 = .int .i64 k ∧ (∀ i, i < k → mapAt R i = true) ∧ ∃ z : Later y1.w, wr = z.w) (fun t14 _ => R.length - (intOf t14).toNat)
  case atStart => exact ⟨0, Nat.zero_le _, rfl, fun i h => absurd h (by omega), ⟨_, Below.refl _ _⟩, rfl⟩
  case round =>
    obtain ⟨k, hk, rfl, hgood, z, rfl⟩ := hrel
    have hzz := z.bel.size
    replace hgood := Lib.hid hgood
    by_cases hlt : k < R.length
    · have hk1 : (k : Int) < (R.length : Int) := by omega
      have hrz := hr.out.bel (w' := z.w) bb
      obtain ⟨b, o, ai, ci, rfl, hb, q0, q1, -, -⟩ := hrz.at_ hlt
      have htl : (R.take k).length = k := by rw [List.length_take]; omega
      have hk20 : k ≤ 1048576 := by omega
      have HRz := Lib.hid hrz
      have CT := Lib.hid (fun (w : World) (g : Nat) (hg : w.cell? ⟨g, 0, none⟩ = some (.slice ai R[k].length ci)) (hgw : g < w.heap.size) (hr : Row w ai (ptsCells R[k])) (hl : RingsR w (some ⟨b, o, none⟩) (R.take k)) => containsFuncG_any 130 #[] #[.pointer (some ⟨g, 0, none⟩)] (fun r => !togB sideZ R[k] r) (R.take k) (some ⟨b, o, none⟩) k c w enters_isMap2 htl hk20 hl (tells_isMap2 (R := R.take k) (A := R[k]) (g := g) (c := ci) (a := ai) (w := w) (fun r hm => ok2.out r (List.mem_of_mem_take hm)) (ok2.out _ (List.getElem_mem hlt)) hg hgw hr))
      have e := XT.out k hlt
      obtain ⟨X, hX⟩ : ∃ x, (R.take k).any (fun r => !togB sideZ R[k] r) = x := ⟨_, rfl⟩
      rw [hX] at e
      simp only [hX] at CT
      replace e := Lib.hid e
      clear hX hrz
      replace q1 := Lib.hid q1
      have hcw := Lib.hid (show ((z.w.alloc (.cells #[.slice ai R[k].length ci] 83))).cell? ⟨z.w.heap.size, 0, none⟩ = some (.slice ai R[k].length ci) from by simp [go_sem, ↓IntWalk.iteOmega])
      have hc1 : (k : Int) ≤ (c : Int) := by omega
      go_wp2_with fail
      with_reducible refine (CT.out _ z.w.heap.size hcw.out (by simp only [World.size_alloc]; omega) (q1.out.bel bb) ((HRz.out.take k).bel bb)).mono ?_
      rintro e' w' ⟨rfl, y2, rfl⟩
      have hs2 := y2.bel.size
      simp only [World.size_alloc] at hs2
      cases X
      · have X2 := Lib.hid (show ∀ i, i < k + 1 → mapAt R i = true from fun i hi => by
          rcases Nat.lt_or_ge i k with h1 | h1
          · exact hgood.out i h1
          · obtain rfl : i = k := by omega
            rw [e.out]; rfl)
        go_wp2_with fail
        go_roundw
        case rel => exact ⟨k + 1, by omega, by go_num, X2.out, LaterC.mk bb⟩
        case measure => first | (simp [intOf]; done) | (simp [intOf]; omega) | omega
      · have X2 := Lib.hid (XN.out k hlt (by rw [e.out]; rfl))
        go_wp2_with fail
        go_ret
        exact .mk (by rw [X2.out]; rfl) bb
    · obtain rfl : k = R.length := by omega
      have X := Lib.hid (XA.out hgood.out)
      go_wp2_with fail
      go_ret
      exact .mk (by rw [X.out]; rfl) bb
end Go.Proofs.YtklcaphkfdlipaaGreatDoor
